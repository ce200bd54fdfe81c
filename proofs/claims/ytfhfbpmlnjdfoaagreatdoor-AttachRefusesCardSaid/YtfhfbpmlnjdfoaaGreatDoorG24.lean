/- A cache: Evict -/
import Derived.Test.YtfhfbpmlnjdfoaaGreatDoorG23
set_option maxRecDepth 100000
set_option maxHeartbeats 1000000
namespace Go.Proofs.YtfhfbpmlnjdfoaaGreatDoor
open Go Go.RowKit Tryz
def CaS.ev(n:CaN)(a:CaS):CaS:={a with K:=(EvG.evR (cleanB a.ps) n.sl a.K a.A a.H).2.2.1,A:=(EvG.evR (cleanB a.ps) n.sl a.K a.A a.H).2.2.2.1,H:=(EvG.evR (cleanB a.ps) n.sl a.K a.A a.H).2.2.2.2}
def CaS.evK(n:CaN)(a:CaS):Int:=(EvG.evR (cleanB a.ps) n.sl a.K a.A a.H).1
def CaS.evC(n:CaN)(a:CaS):Int:=(EvG.evR (cleanB a.ps) n.sl a.K a.A a.H).2.1
theorem TE{fm:Int->Bool}{K:List Int}(hK:K≠[]):∀(g h:Nat) (A A':Int->Bool) (p:Nat),EvG.evGo fm K g h A=some (p,A')->p<K.length/\fm (K.getD p 0)=true/\A' (K.getD p 0)=false/\∀x,A' x=true->A x=true:=by
 have hl:0<K.length:=List.length_pos_iff.2 hK;intro g
 induction g with
 |zero=>intro h A A' p e;cases e
 |succ g ih=>
  intro h A A' p e;simp only[EvG.evGo]at e;split at e
  .exact ih _ _ _ _ e
  .next hf=>
   split at e
   .next ha=>
    obtain⟨h1,h2,h3,h4⟩:=ih _ _ _ _ e;refine⟨h1,h2,h3,fun x hx=>?_⟩;have:=h4 x hx;unfold updB at this;split at this
    .cases this
    .exact this
   .next ha=>
    simp only[Option.some.injEq,qYk]at e;obtain⟨rfl,rfl⟩:=e;exact⟨qYa _ hl,by simpa using hf,by simpa using ha,fun _ h=>h⟩
theorem evR_cases(fm:Int->Bool)(few:Nat)(K:List Int)(A:Int->Bool)(G:List Int):
  ((EvG.evR fm few K A G).2.1=14/\EvG.evR fm few K A G=(0,14,K,A,G))\/
   ((EvG.evR fm few K A G).2.1=0/\∃i A',∃h:i<K.length,EvG.evR fm few K A G=(K[i],0,EvG.restK K i,A',EvG.trimG few (G++[K[i]]))/\fm K[i]=true/\A' K[i]=false):=by
 unfold EvG.evR;cases hg:EvG.evGo fm K (2*K.length) 0 A with
 |none=>exact .inl ⟨rfl,rfl⟩
 |some q=>
  obtain⟨p,A'⟩:=q;by_cases hK:K=[]
  .subst hK;cases hg
  .obtain ⟨h1,h2,h3,-⟩:=TE hK _ _ _ _ _ hg;have e:K.getD p 0=K[p]:=by simp[h1]
   rw[e]at h2 h3;refine .inr ⟨rfl,p,A',h1,?_,h2,h3⟩;simp only[e]
theorem Zg{ps:List (Int×Bool)}{k:Int}(h:cleanB ps k=true):getC ps k=0:=by
 unfold cleanB at h;simp only[qxo,beq_iff_eq]at h;exact h.1
def CaS.kq(n:CaN):Nat->Nat->CaS->CaS×Nat×Int
 |0,g,a=>(a,g,0)
 |m+1,g,a=>
  if a.spareB=false then(a,g,0)
  else if(a.j8 n).2≠0 then((a.j8 n).1,g,(a.j8 n).2)
  else if(a.j8 n).1.evC n≠0 then((a.j8 n).1.ev n,g,0)
  else if turnCode (a.j8 n).1.st (getV (a.j8 n).1.ps ((a.j8 n).1.evK n)).1 3≠0 then(((a.j8 n).1.ev n).left n ((a.j8 n).1.evK n),g,turnCode (a.j8 n).1.st (getV (a.j8 n).1.ps ((a.j8 n).1.evK n)).1 3)
  else CaS.kq n m (g+1) (((a.j8 n).1.ev n).left n ((a.j8 n).1.evK n))
theorem CaS.Fit.ev{n:CaN}{a:CaS}{N:Nat}(h:a.Fit N):(a.ev n).Fit N:={h with}
theorem CaS.Fit.left{n:CaN}{a:CaS}{N:Nat}(h:a.Fit N)(h1:1<=a.next)(k:Int):(a.left n k).Fit (N+1):=
 {h.mono (qXw N)with
  nx:=by have:=h.nx;show a.next+1<=N+1;omega
  w1:=fun q hq=>by
   rcases qzq.1 hq with hq|hq
   .exact h.w1 q hq
   .simp at hq;subst hq;exact h1
  sm:=fun x v hv=>by
   simp only[upd1]at hv;split at hv
   .cases hv
   .exact h.sm x v hv}
theorem CaS.ckpt_next(n:CaN)(a:CaS):(a.ckpt n).1.next=a.next/\(a.ckpt n).1.ps=a.ps:=by
 unfold CaS.ckpt
 repeat' split
 all_goals exact⟨rfl,rfl⟩
theorem CaS.ckpt_room{n:CaN}{a:CaS}(h:(a.ckpt n).2=0)(h1:1<=a.next)(hj:4<=n.jo):(a.ckpt n).1.next+1<=(a.ckpt n).1.cov+n.jo:=by
 unfold CaS.ckpt at*;split at h
 .next hc=>exact absurd h hc
 split at h
 .next hc=>exact absurd h hc
 split at h
 .next hc=>exact absurd h hc
 .next h2 h3 h4=>
  rw[if_neg h2,if_neg h3,if_neg h4];show a.next+1<=(a.next-1)+n.jo;omega
theorem CaS.j9(n:CaN)(a:CaS):(a.j8 n).1.next=a.next/\(a.j8 n).1.ps=a.ps:=by
 unfold CaS.j8;split
 .exact ⟨rfl,rfl⟩
 .exact a.ckpt_next n
theorem CaS.kC{n:CaN}{a:CaS}(h:(a.j8 n).2=0)(h1:1<=a.next)(hj:4<=n.jo):(a.j8 n).1.next+1<=(a.j8 n).1.cov+n.jo:=by
 unfold CaS.j8 at*;split at h
 .next hc=>rw[if_pos hc];exact hc
 .next hc=>rw[if_neg hc];exact CaS.ckpt_room h h1 hj
section
variable{own:Nat->Nat}{w w':World}{c:Nat}{n:CaN}{p:CaP}{a:CaS}{N:Nat}
theorem CaAt.nx1(h:CaAt own w c n p a):1<=a.next:=by have:=h.jr.good.wl;omega
theorem zaC(h:CaAt own w c n p a):Calls prog 165 #[ptr p.ck,EvG.mayV (ptr c)] w (zv own w c n p (a.ev n) (.tuple #[.int .i64 (a.evK n),.int .i64 (a.evC n)])):=
 (Tu h).mono fun e w' ⟨key,code,K',A',H',he,ho,own',h',hd⟩=>by
  have e2:=ho.2;refine⟨?_,own',?_,hd⟩
  .rw [he,CaS.evK,CaS.evC,e2]
  .rw [CaS.ev,e2];exact h'
theorem XE(h:CaAt own w c n p a)(hf:a.Fit N)(m:Nat)(hm:m<=1000)(hN:N+m*(n.pa+1)<=50000):
  Calls prog 89 #[ptr c,.int .i64 (m:Int)] w (zv own w c n p (CaS.kq n m 0 a).1 (.tuple #[.int .i64 ((CaS.kq n m 0 a).2.1:Int),.int .i64 (CaS.kq n m 0 a).2.2])):=by
 obtain⟨R,hR⟩:=qqe (CaS.kq n m 0 a);rw[<-hR];have H:=Y4 h hf hN hR;have hmf:=qqf;clear h hf hN hR;go_enter func89,ntmps89
 go_wp2
 refine wp_scope_straight ?_;go_wp2
 refine wp_label ?_;go_wp2
 go_loopg[6] m (fun g i wr=>∃k:Nat,k+g=m/\i=.int .i64 k/\∃own' a',CaAt own' wr c n p a'/\Did own own' w wr/\a'.Fit (N+k*(n.pa+1))/\CaS.kq n g k a'=R)
 case atStart=>exact⟨0,oM,rfl,own,a,H.o.1,Did.refl H.o.1.far,by simpa using H.o.2.1,H.o.2.2.2.symm⟩
 case round=>
  obtain⟨k,hk,rfl,own1,a1,h1,d1,f1,e1⟩:=hrel;have hmul:k<m->(k+1)*(n.pa+1)<=m*(n.pa+1):=fun h=>qYb _ h;rw[Nat.succ_mul]at hmul;have H1:=Y4 h1 d1 f1 e1;have HS:=qqh (RZ h1);have hmul:=qqh hmul;clear h1 d1 f1 e1;by_cases hlt:k<m
  .have hN1:Hid (N+(k+1)*(n.pa+1)<=50000):=by
    show _<=_;have h1:=hmul.out hlt;have h2:=H.o.2.2.1;rw[Nat.succ_mul];omega
   have hs1:(k+1)*(n.pa+1)=k*(n.pa+1)+(n.pa+1):=Nat.succ_mul _ _;replace hs1:=qqh hs1;have e1':CaS.kq n (gk-1+1) k a1=R:=by rw[show gk-1+1=gk by omega];exact H1.o.2.2.2
   rw[CaS.kq]at e1';replace e1':=qqh e1';go_wp2_with fail
   refine HS.o.mono ?_;rintro e w2 ⟨rfl,hb2⟩;have hu2:=qqb hb2;have h2:=H1.o.1.new hu2;have d2:=H1.o.2.1.trans (H1.o.1.ki hu2);have f2:=H1.o.2.2.1;have hsz:Hid (w.heap.size<=w2.heap.size):=d2.upd.size;clear hu2 hb2 H1 HS;cases hsp:a1.spareB with
   |false=>
    have e2:=e1'.out;rw[if_pos hsp]at e2;have H2:=Y3 h2 d2 e2;clear h2 d2 f2 hsp e2;go_wp2
    rw[qxr];go_ret2
    rw[<-H2.o.2.2];exact⟨rfl,own1,H2.o.1,H2.o.2.1⟩
   |true=>
    have e2:=e1'.out;rw[if_neg (by rw[hsp];decide)]at e2;clear e1' hsp;have HR:=qqh (zv.from d2 (vA h2 f2 (by have:=hN1.out;have:=hs1.out;omega)));have hnx:=h2.nx1;have hjo:=h2.ok.j1;have f3:=f2.j8 (n:=n);have hrm:=fun h=>CaS.kC (a:=a1) (n:=n) h hnx hjo;have hnn:=(a1.j9 n).1;generalize a1.j8 n=r at*;obtain⟨b,cd⟩:=r;simp only at HR e2 f3 hrm hnn;have H2:=Y4 e2 f3 hrm hnn;clear h2 d2 f2 e2 f3 hrm hnn hnx;go_wp2_with fail
    refine HR.o.mono ?_;rintro e w3 ⟨rfl,own3,h3,d3⟩;clear HR;by_cases hc:cd=0
    rotate_left
    .have q0:(cd==0)=false:=by simpa using hc
     have e2:=H2.o.1;rw[if_pos hc]at e2;have H3:=Y3 h3 d3 e2;clear h3 d3 e2;go_wp2
     rw[qxr];go_ret2
     rw[<-H3.o.2.2];exact⟨rfl,own3,H3.o.1,H3.o.2.1⟩
    subst hc;have e3:=H2.o.1;rw[if_neg oe]at e3;obtain⟨-,-,-,-,-,-,-,c21,-⟩:=h3.cells;have HK:=qqh (zv.from d3 (zaC h3));have H3:=Y4 e3 h3.nx1 (evR_cases (cleanB b.ps) n.sl b.K b.A b.H) h3.ok;clear h3 d3 e3;go_wp2_with fail
    refine HK.o.mono ?_;rintro e w4 ⟨rfl,own4,h4,d4⟩;obtain⟨key,hkey⟩:=qqe (b.evK n);obtain⟨code,hcode⟩:=qqe (b.evC n);rw[<-hkey,<-hcode];have H4:=Y4 h4 d4 hkey hcode;clear h4 d4 hkey hcode HK c21;by_cases hc:code=0
    rotate_left
    .have q0:(code==0)=false:=by simpa using hc
     have e4:=H3.o.1;rw[<-H4.o.2.2.2,if_pos hc]at e4;replace e4:=qqh e4;go_wp2
     rw[qxr];go_ret2
     rw[<-e4.out];exact⟨rfl,own4,H4.o.1,H4.o.2.1⟩
    subst hc;obtain⟨h4,d4,hkey,hcode⟩:=H4.o;obtain⟨e3,hnx,hcs,hok⟩:=H3.o;rw[<-hcode,if_neg oe,<-hkey]at e3;have hg:getC (b.ev n).ps key=0:=by
     rcases hcs with⟨hcs,-⟩|⟨-,i,A',hi,hev,hfm,-⟩
     .have:b.evC n=14:=hcs;rw[<-hcode]at this;cases this
     .have:key=b.K[i]:=by rw[hkey,CaS.evK,hev]
      rw[this];exact Zg hfm
    have hkr:0<=key/\key<4096:=by
     have h1:=h4.pl;have h2:=h4.ok.b2;unfold getC at hg;split at hg
     .cases hg
     .omega
    have hrm:=H2.o.2.2.1 oe;have f3:=H2.o.2.1;have hnb:(b.ev n).next=b.next:=rfl;have hnx2:b.next<=50000:=qXx f3.nx (by have:=hN1.out;have:=hs1.out;omega);have HL:=qqh (zv.from d4 (Xp h4 key hg (by show b.next<=b.cov+n.jo;omega) (by rw[hnb];omega) (by rw[hnb];exact tt hnx oM oP hkr)));have f5:((b.ev n).left n key).Fit (N+k*(n.pa+1)+n.pa+1):=f3.ev.left hnx key;have hgk:=hk;generalize hlc:turnCode (b.ev n).st (getV (b.ev n).ps key).1 3=lc at*;replace hlc:turnCode b.st (getV b.ps key).1 3=lc:=hlc;rw[hlc]at e3;have H5:=Y2 e3 f5;clear h4 d4 hkey hcode e3 hnx hcs hok hg hkr hrm f3 hnb hnx2 f5 hlc H4 H3 H2;go_wp2_with fail
    refine HL.o.mono ?_;rintro e w5 ⟨rfl,own5,h5,d5⟩;have H6:=Y2 h5 d5;clear h5 d5 HL;by_cases hc:lc=0
    rotate_left
    .have q0:(lc==0)=false:=by simpa using hc
     have e4:=H5.o.1;rw[if_pos hc]at e4;replace e4:=qqh e4;go_wp2
     rw[qxr];go_ret2
     rw[<-e4.out];exact⟨rfl,own5,H6.o.1,H6.o.2⟩
    subst hc;have e4:=H5.o.1;rw[if_neg oe]at e4;replace e4:=qqh e4;go_wp2
    go_roundg (gk-1)
    case measure=>omega
    case rel=>
     refine⟨k+1,oM,by go_num,own5,_,H6.o.1,H6.o.2,?_,e4.out⟩;rw[hs1.out,<-qXr,<-qXr];exact H5.o.2
  .have e1:=H1.o.2.2.2;have hk0:gk=0:=oM;rw[hk0]at e1;have e2:(a1,k,(0:Int))=R:=e1;have H2:=Y3 H1.o.1 H1.o.2.1 e2;clear e1 e2 H1 HS;go_wp2
   rw[qxr];go_ret2
   rw[<-H2.o.2.2];exact⟨rfl,own1,H2.o.1,H2.o.2.1⟩
end
def CaS.kE(n:CaN)(b:CaS)(s:Int):CaS×Int×Bool×Int:=
 if(b.j8 n).2=0 then((b.j8 n).1,s,true,0)else({(b.j8 n).1 with st:=turnList (b.j8 n).1.st s 3},0,false,(b.j8 n).2)
def CaS.al(b:CaS):CaS:={b with st:=allocList b.st}
def CaS.take3(n:CaN)(b:CaS):CaS×Int×Bool×Int:=
 if(b.kh n).2≠0 then((b.kh n).1,0,false,(b.kh n).2)
 else if allocCode (b.kh n).1.st≠0 then((b.kh n).1.al,0,false,0)else(b.kh n).1.al.kE n (allocVal (b.kh n).1.st)
def CaS.kG(n:CaN)(b:CaS):CaS×Int×Bool×Int:=if(pos b.st 3).length=0 then(b,0,false,0)else b.take3 n
def CaS.take1(n:CaN)(b:CaS):CaS×Int×Bool×Int:=
 if(pos b.st 3).length=0 then(if(CaS.kq n 1 0 b).2.2≠0 then((CaS.kq n 1 0 b).1,0,false,(CaS.kq n 1 0 b).2.2)else(CaS.kq n 1 0 b).1.kG n)else b.kG n
def CaS.kj(n:CaN)(a:CaS):CaS×Int×Bool×Int:=if allocCode a.st=0 then a.al.kE n (allocVal a.st)else a.al.take1 n
theorem zaD(base k:Nat)(F:List Bk)(O:List (Nat×Bk))(P:List Int)(W:List (Nat×Bk)):(comR base k F O P W).1.O.length<=O.length+W.length/\((comR base k F O P W).2=W\/(comR base k F O P W).2=[]):=by
 have h1:=xY F O P;have h2:=Wy base k (flushR F O P).F W (flushR F O P).O (flushR F O P).P;have h3:=xY (comW base k (flushR F O P).F W (flushR F O P).O (flushR F O P).P).F (comW base k (flushR F O P).F W (flushR F O P).O (flushR F O P).P).O (comW base k (flushR F O P).F W (flushR F O P).O (flushR F O P).P).P;unfold comR;split
 .exact ⟨qXx h1 (qXu _ _),.inl rfl⟩
 split
 .exact ⟨by dsimp only;omega,.inl rfl⟩
 split
 .exact ⟨by dsimp only;omega,.inl rfl⟩
 .exact ⟨by dsimp only;omega,.inr rfl⟩
theorem CaS.Fit.cm{n:CaN}{a:CaS}{N:Nat}(h:a.Fit N)(hW:a.W.length<=n.jo):(a.cm n).Fit (N+n.jo):=by
 obtain⟨h1,h2⟩:=zaD (1+2*n.pa) n.jo a.dF a.dO a.dP a.W;exact{h.mono (qXu N n.jo)with
  dO:=by have:=h.dO;show(comR (1+2*n.pa) n.jo a.dF a.dO a.dP a.W).1.O.length<=_;omega
  w1:=fun q hq=>by
   replace hq:q∈(comR (1+2*n.pa) n.jo a.dF a.dO a.dP a.W).2:=hq;rcases h2 with e|e
   .rw [e]at hq;exact h.w1 q hq
   .rw [e]at hq;cases hq}
theorem CaS.Fit.kh{n:CaN}{a:CaS}{N:Nat}(h:a.Fit N)(hW:a.W.length<=n.jo):(a.kh n).1.Fit (N+n.jo):=by
 have h1:=h.fb;have h2:=h1.cm (n:=n) hW;unfold CaS.kh;split
 .exact h1.mono (qXu _ _)
 split
 .exact h2
 .exact {h2 with}
theorem CaS.Fit.al{a:CaS}{N:Nat}(h:a.Fit N):a.al.Fit N:={h with}
theorem CaS.Fit.turned{a:CaS}{N:Nat}(h:a.Fit N)(l:List Int):({a with st:=l}:CaS).Fit N:={h with}
theorem CaS.Fit.kE{n:CaN}{a:CaS}{N:Nat}(h:a.Fit N)(s:Int):(a.kE n s).1.Fit (N+n.pa):=by
 unfold CaS.kE;split
 .exact h.j8
 .exact h.j8.turned _
section
variable{own:Nat->Nat}{w w':World}{c:Nat}{n:CaN}{p:CaP}{a:CaS}{N:Nat}
theorem CaAt.wl(h:CaAt own w c n p a):a.W.length<=n.jo:=by have h1:=h.jr.good.wl;have h2:=h.jr.good.room;omega
theorem Sa(h:CaAt own w c n p a):Calls prog 324 #[ptr p.ss] w (zv own w c n p a.al (.tuple #[.int .i64 (allocVal a.st),.int .i64 (allocCode a.st)])):=RB h
theorem CaS.Fit.kq{n:CaN}:∀(m g:Nat) {a:CaS} {N:Nat},a.Fit N->1<=a.next->(CaS.kq n m g a).1.Fit (N+m*(n.pa+1))
 |0,g,a,N,h,_=>by simpa[CaS.kq]using h
 |m+1,g,a,N,h,h1=>by
  have hr:=h.j8 (n:=n);have hn:=(a.j9 n).1;have hs:(m+1)*(n.pa+1)=m*(n.pa+1)+(n.pa+1):=Nat.succ_mul _ _;have hl:(((a.j8 n).1.ev n).left n ((a.j8 n).1.evK n)).Fit (N+n.pa+1):=hr.ev.left ju _;simp only[CaS.kq];split
  .exact h.mono (qXu _ _)
  split
  .exact hr.mono oM
  split
  .exact hr.ev.mono oM
  split
  .exact hl.mono oM
  .have:=CaS.Fit.kq (n:=n) m (g+1) hl (by show 1<=(a.j8 n).1.next+1;omega);exact this.mono oM
theorem CaS.committed_next(n:CaN)(a:CaS):(a.kh n).1.next=a.next/\(a.kh n).1.ps=a.ps:=by
 unfold CaS.kh
 repeat' split
 all_goals exact⟨rfl,rfl⟩
theorem Ul(h:CaAt own w c n p a)(hf:a.Fit N)(hN:N+2*n.pa+n.jo+1<=50000):
  Calls prog 295 #[ptr c] w (zv own w c n p (a.kj n).1 (.tuple #[.int .i64 (a.kj n).2.1,.bool (a.kj n).2.2.1,.int .i64 (a.kj n).2.2.2])):=by
 obtain⟨R,hR⟩:=qqe (a.kj n);rw[<-hR];unfold CaS.kj at hR;have HA:=qqh (Sa h);obtain⟨-,-,-,-,-,cS,-,-,-⟩:=h.cells;have H:=Y3 hf hR h.nx1;clear h hf hR;go_enter func295,ntmps295
 go_wp2_with fail
 refine HA.o.mono ?_;rintro e w1 ⟨rfl,own1,h1,d1⟩;have hR:=H.o.2.1;have hf:=H.o.1.al;have hnx:1<=a.al.next:=H.o.2.2;generalize allocVal a.st=av at*;generalize allocCode a.st=ac at*;generalize a.al=b at*;clear HA cS H;by_cases hc:ac=0
 .subst hc;rw[if_pos rfl]at hR;unfold CaS.kE at hR;have HC:=qqh (zv.from d1 (vA h1 hf oM));generalize hrr:CaS.j8 n b=r at*;obtain⟨bR,cdR⟩:=r;simp only at hR HC;have HX:=qqh hR;clear h1 d1 hR hf hrr;go_wp2_with fail
  refine HC.o.mono ?_;rintro e w21 ⟨rfl,own21,h21,d21⟩;have hR:=HX.o;clear HC;by_cases hc:cdR=0
  .subst hc;rw[if_pos rfl]at hR;have HY:=Y3 h21 d21 hR;clear h21 d21 hR;go_wp2
   go_ret3
   rw[HY.o.2.2];exact⟨rfl,own21,HY.o.1,HY.o.2.1⟩
  .have q9:(cdR==0)=false:=by simpa using hc
   rw[if_neg hc]at hR;have HT:=qqh (zv.from d21 (xg h21 av 3));obtain⟨-,-,-,-,-,cS,-,-,-⟩:=h21.cells;have HY:=qqh hR;clear h21 d21 hR hc;go_wp2_with fail
   refine HT.o.mono ?_;rintro e w22 ⟨rfl,own22,h22,d22⟩;have HZ:=Y2 h22 d22;clear h22 d22 HT cS;go_wp2
   go_ret3
   rw[HY.o];exact⟨rfl,own22,HZ.o.1,HZ.o.2⟩
 .have q0:(ac==0)=false:=by simpa using hc
  rw[if_neg hc]at hR;unfold CaS.take1 at hR;have HC:=qqh (zv.from d1 (uI h1 3));obtain⟨-,-,-,-,-,cS,-,-,-⟩:=h1.cells;have H:=Y3 hf hR hnx;clear h1 d1 hf hR hc hnx;go_wp2_with fail
  refine HC.o.mono ?_;rintro e w2 ⟨rfl,own2,h2,d2⟩;have hR:=H.o.2.1;clear HC cS;obtain⟨st,hst⟩:=qqe ((pos b.st 3).length);rw[<-hst]at hR⊢;by_cases hc:st=0
  .rw [if_pos hc]at hR;have q1:((st:Int)==0)=true:=by simpa using hc
   have HE:=qqh (zv.from d2 (XE h2 H.o.1 1 oM oM));have hfe:=CaS.Fit.kq (n:=n) 1 0 H.o.1 H.o.2.2;generalize CaS.kq n 1 0 b=r at*;obtain⟨b2,g2,cd2⟩:=r;simp only at hR hfe HE;have HX:=Y2 hfe hR;clear h2 d2 hR hfe hst hc H;go_wp2_with fail
   refine HE.o.mono ?_;rintro e w3 ⟨rfl,own3,h3,d3⟩;have hR:=HX.o.2;clear HE;by_cases hc:cd2=0
   rotate_left
   .have q0:(cd2==0)=false:=by simpa using hc
    rw[if_pos hc]at hR;have HY:=Y3 h3 d3 hR;clear h3 d3 hR;go_wp2
    go_ret3
    rw[HY.o.2.2];exact⟨rfl,own3,HY.o.1,HY.o.2.1⟩
   subst hc;rw[if_neg oe]at hR;have hf:=HX.o.1;unfold CaS.kG at hR;have HC:=qqh (zv.from d3 (uI h3 3));obtain⟨-,-,-,-,-,cS,-,-,-⟩:=h3.cells;have H:=Y2 hf hR;clear h3 d3 hf hR HX;go_wp2_with fail
   refine HC.o.mono ?_;rintro e w4 ⟨rfl,own4,h4,d4⟩;have hR:=H.o.2;clear HC cS;obtain⟨st2,hst⟩:∃st,st=(pos b2.st 3).length:=⟨_,rfl⟩
   rw[<-hst]at hR⊢;by_cases hc:st2=0
   .rw [if_pos hc]at hR;have q9:((st2:Int)==0)=true:=by simpa using hc
    have HY:=Y3 h4 d4 hR;clear h4 d4 hR hst hc;go_wp2
    go_ret3
    rw[HY.o.2.2];exact⟨rfl,own4,HY.o.1,HY.o.2.1⟩
   rw[if_neg hc]at hR;have q9:((st2:Int)==0)=false:=by simpa using hc
   clear hst;unfold CaS.take3 at hR;have hwl:=h4.wl;have hf0:=H.o.1;have HC:=qqh (zv.from d4 (vY h4 hf0.w1 (by have:=hf0.dO;omega)));have hf:=hf0.kh (n:=n) hwl;generalize CaS.kh n b2=r at*;obtain⟨b3,cd3⟩:=r;simp only at hR HC hf;have HX:=Y2 hf hR;clear h4 d4 hR hf hf0 hwl H;go_wp2_with fail
   refine HC.o.mono ?_;rintro e w5 ⟨rfl,own5,h5,d5⟩;have hR:=HX.o.2;clear HC;by_cases hc:cd3=0
   rotate_left
   .have q9:(cd3==0)=false:=by simpa using hc
    rw[if_pos hc]at hR;have HY:=Y3 h5 d5 hR;clear h5 d5 hR;go_wp2
    go_ret3
    rw[HY.o.2.2];exact⟨rfl,own5,HY.o.1,HY.o.2.1⟩
   subst hc;rw[if_neg oe]at hR;have HA:=qqh (zv.from d5 (Sa h5));obtain⟨-,-,-,-,-,cS,-,-,-⟩:=h5.cells;have HY:=qqh hR;clear h5 d5 hR;go_wp2_with fail
   refine HA.o.mono ?_;rintro e w6 ⟨rfl,own6,h6,d6⟩;have hR:=HY.o;have hf:=HX.o.1.al;generalize allocVal b3.st=av2 at*;generalize allocCode b3.st=ac2 at*;generalize b3.al=b4 at*;clear HA cS HX HY;by_cases hc:ac2=0
   rotate_left
   .have q9:(ac2==0)=false:=by simpa using hc
    rw[if_pos hc]at hR;have HY:=Y3 h6 d6 hR;clear h6 d6 hR;go_wp2
    go_ret3
    rw[HY.o.2.2];exact⟨rfl,own6,HY.o.1,HY.o.2.1⟩
   subst hc;rw[if_neg oe]at hR;unfold CaS.kE at hR;have HC:=qqh (zv.from d6 (vA h6 hf oM));generalize hrr:CaS.j8 n b4=r at*;obtain⟨bR,cdR⟩:=r;simp only at hR HC;have HX:=qqh hR;clear h6 d6 hR hf hrr;go_wp2_with fail
   refine HC.o.mono ?_;rintro e w26 ⟨rfl,own26,h26,d26⟩;have hR:=HX.o;clear HC;by_cases hc:cdR=0
   .subst hc;rw[if_pos rfl]at hR;have HY:=Y3 h26 d26 hR;clear h26 d26 hR;go_wp2
    go_ret3
    rw[HY.o.2.2];exact⟨rfl,own26,HY.o.1,HY.o.2.1⟩
   .have q9:(cdR==0)=false:=by simpa using hc
    rw[if_neg hc]at hR;have HT:=qqh (zv.from d26 (xg h26 av2 3));obtain⟨-,-,-,-,-,cS,-,-,-⟩:=h26.cells;have HY:=qqh hR;clear h26 d26 hR hc;go_wp2_with fail
    refine HT.o.mono ?_;rintro e w27 ⟨rfl,own27,h27,d27⟩;have HZ:=Y2 h27 d27;clear h27 d27 HT cS;go_wp2
    go_ret3
    rw[HY.o];exact⟨rfl,own27,HZ.o.1,HZ.o.2⟩
  .rw [if_neg hc]at hR;have q1:((st:Int)==0)=false:=by simpa using hc
   unfold CaS.kG at hR;have HC:=qqh (zv.from d2 (uI h2 3));obtain⟨-,-,-,-,-,cS,-,-,-⟩:=h2.cells;rw[<-hst]at hR HC;have H:=Y2 H.o.1 hR;clear h2 d2 hR hst;have hcc:=qqh hc;clear hc;go_wp2_with fail
   refine HC.o.mono ?_;rintro e w4 ⟨rfl,own4,h4,d4⟩;have hR:=H.o.2;have hc:=hcc.out;clear HC cS;obtain⟨b2,hb2⟩:=qqe (b);rw[if_neg hc]at hR;subst hb2;unfold CaS.take3 at hR;have hwl:=h4.wl;have hf0:=H.o.1;have HC:=qqh (zv.from d4 (vY h4 hf0.w1 (by have:=hf0.dO;omega)));have hf:=hf0.kh (n:=n) hwl;generalize CaS.kh n b2=r at*;obtain⟨b3,cd3⟩:=r;simp only at hR HC hf;have HX:=Y2 hf hR;clear h4 d4 hR hf hf0 hwl H;go_wp2_with fail
   refine HC.o.mono ?_;rintro e w5 ⟨rfl,own5,h5,d5⟩;have hR:=HX.o.2;clear HC;by_cases hc:cd3=0
   rotate_left
   .have q9:(cd3==0)=false:=by simpa using hc
    rw[if_pos hc]at hR;have HY:=Y3 h5 d5 hR;clear h5 d5 hR;go_wp2
    go_ret3
    rw[HY.o.2.2];exact⟨rfl,own5,HY.o.1,HY.o.2.1⟩
   subst hc;rw[if_neg oe]at hR;have HA:=qqh (zv.from d5 (Sa h5));obtain⟨-,-,-,-,-,cS,-,-,-⟩:=h5.cells;have HY:=qqh hR;clear h5 d5 hR;go_wp2_with fail
   refine HA.o.mono ?_;rintro e w6 ⟨rfl,own6,h6,d6⟩;have hR:=HY.o;have hf:=HX.o.1.al;generalize allocVal b3.st=av2 at*;generalize allocCode b3.st=ac2 at*;generalize b3.al=b4 at*;clear HA cS HX HY;by_cases hc:ac2=0
   rotate_left
   .have q9:(ac2==0)=false:=by simpa using hc
    rw[if_pos hc]at hR;have HY:=Y3 h6 d6 hR;clear h6 d6 hR;go_wp2
    go_ret3
    rw[HY.o.2.2];exact⟨rfl,own6,HY.o.1,HY.o.2.1⟩
   subst hc;rw[if_neg oe]at hR;unfold CaS.kE at hR;have HC:=qqh (zv.from d6 (vA h6 hf oM));generalize hrr:CaS.j8 n b4=r at*;obtain⟨bR,cdR⟩:=r;simp only at hR HC;have HX:=qqh hR;clear h6 d6 hR hf hrr;go_wp2_with fail
   refine HC.o.mono ?_;rintro e w26 ⟨rfl,own26,h26,d26⟩;have hR:=HX.o;clear HC;by_cases hc:cdR=0
   .subst hc;rw[if_pos rfl]at hR;have HY:=Y3 h26 d26 hR;clear h26 d26 hR;go_wp2
    go_ret3
    rw[HY.o.2.2];exact⟨rfl,own26,HY.o.1,HY.o.2.1⟩
   .have q9:(cdR==0)=false:=by simpa using hc
    rw[if_neg hc]at hR;have HT:=qqh (zv.from d26 (xg h26 av2 3));obtain⟨-,-,-,-,-,cS,-,-,-⟩:=h26.cells;have HY:=qqh hR;clear h26 d26 hR hc;go_wp2_with fail
    refine HT.o.mono ?_;rintro e w27 ⟨rfl,own27,h27,d27⟩;have HZ:=Y2 h27 d27;clear h27 d27 HT cS;go_wp2
    go_ret3
    rw[HY.o];exact⟨rfl,own27,HZ.o.1,HZ.o.2⟩
end
theorem yh{α:Type}(l:List α)(i j:Nat)(x d:α):(l.set i x).getD j d=if i=j/\i<l.length then x else l.getD j d:=by
 simp only[qyh,qyt];by_cases h:i=j
 .subst h;by_cases hi:i<l.length
  .simp [hi]
  .simp [hi]
 .simp [h]
abbrev plc(ps:List (Int×Bool))(k:Nat):Int×Bool:=ps.getD k (-1,false)
theorem xQ{ps:List (Int×Bool)}{k:Nat}(h:k<ps.length):plc ps k=ps[k]:=by simp[plc,h]
structure TieL(bl sl:Nat)(ps:List (Int×Bool))(st:List Int)(K:List Int)(o:Option Nat):Prop where
 hpl:ps.length=bl
 hsl:st.length=sl
 good:Good ps sl
 live:∀k,k<bl->plc ps k≠(-1,false)->st.getD (plc ps k).1.toNat 0=2
 used:∀s,s<sl->st.getD s 0=2->∃k,k<bl/\(plc ps k).1=(s:Int)
 opn:∀s,s<sl->(st.getD s 0=1↔o=some s)
 rng:∀s,s<sl->0<=st.getD s 0/\st.getD s 0<=4
 olt:∀s,o=some s->s<sl
 kk:∀k:Int,k∈K↔getC ps k=0
 kd:K.Nodup
theorem vC{l:List Int}{s:Nat}{t:Int}(hs:s<l.length)(ht:stateB t=true)(hm:mayB (l.getD s 0) t=true):turnCode l (s:Int) t=0/\turnList l (s:Int) t=l.set s t:=by
 have h:turnCode l (s:Int) t=0:=by
  unfold turnCode;rw[if_neg oM,if_neg (by rw[ht];decide),qxu,if_neg (by rw[hm];decide)]
 exact⟨h,by unfold turnList;rw[if_pos h,qxu]⟩
theorem zX{ps:List (Int×Bool)}{k:Int}:getC ps k=0↔∃m:Nat,m<ps.length/\k=(m:Int)/\plc ps m≠(-1,false):=by
 unfold getC;constructor
 .intro h;split at h
  .cases h
  .next hr=>
   split at h
   .cases h
   .next hn=>exact⟨k.toNat,oM,oM,hn⟩
 .rintro ⟨m,h1,rfl,h2⟩;rw[if_neg oM,if_neg (by rw[qxu];exact h2)]
theorem xq{ps:List (Int×Bool)}{m:Nat}(h:m<ps.length)(hn:plc ps m≠(-1,false)):getV ps (m:Int)=plc ps m:=by
 unfold getV;rw[if_neg oM,qxu,if_neg hn]
section
variable{bl sl:Nat}{ps:List (Int×Bool)}{st K:List Int}{o:Option Nat}
theorem TieL.slot(h:TieL bl sl ps st K o){k:Nat}(hk:k<bl)(hn:plc ps k≠(-1,false)):∃s:Nat,s<sl/\(plc ps k).1=(s:Int)/\st.getD s 0=2:=by
 have hl:k<ps.length:=by rw[h.hpl];exact hk
 have h1:=(h.good.each k hl).resolve_left (by rw[<-xQ hl];exact hn);rw[<-xQ hl]at h1;have h2:=h.live k hk hn;exact⟨(plc ps k).1.toNat,oM,oM,h2⟩
theorem TieL.inj(h:TieL bl sl ps st K o){i j:Nat}(hi:i<bl)(hj:j<bl)(h0:0<=(plc ps i).1)(he:(plc ps i).1=(plc ps j).1):i=j:=by
 have h1:i<ps.length:=by rw[h.hpl];exact hi
 have h2:j<ps.length:=by rw[h.hpl];exact hj
 rw[xQ h1]at h0 he;rw[xQ h2]at he;exact h.good.inj i j h1 h2 h0 he
theorem WX(pre:List Nat):∀(l:List Int),pre.Nodup->(∀k∈pre,k<l.length/\l.getD k 0=3)->∀s,(freeTo l pre).getD s 0=if s∈pre then 0 else l.getD s 0:=by
 induction pre with
 |nil=>intro l _ _ s;simp[freeTo]
 |cons x pre ih=>
  intro l hd h s;obtain⟨hx,h3⟩:=h x oe;have ht:=(vC (t:=0) hx de (by rw[h3];decide)).2;have e:freeTo l (x::pre)=freeTo (l.set x 0) pre:=by simp only[freeTo,List.foldl_cons,ht]
  rw[qXb]at hd;rw[e,ih (l.set x 0) hd.2 (fun k hk=>by
   obtain⟨h1,h2⟩:=h k (by simp[hk]);refine⟨by simpa using h1,?_⟩;rw[yh,if_neg (fun(e:x=k/\x<l.length)=>hd.1 (e.1▸hk))];exact h2) s,yh]
  by_cases hsx:x=s
  .subst hsx;rw[if_neg hd.1,if_pos ⟨rfl,hx⟩,if_pos oe]
  .rw [if_neg (fun(e:x=s/\x<l.length)=>hsx e.1)];have:s≠x:=fun e=>hsx e.symm;by_cases hs:s∈pre
   .rw [if_pos hs,if_pos (by simp[hs])]
   .rw [if_neg hs,if_neg (by simp[hs,this])]
theorem Yg{l:List Int}{x:Int}{s:Nat}:s∈pos l x↔s<l.length/\l.getD s 0=x:=by
 simp[pos,xz,List.getD_eq_getElem?_getD]
theorem TF(l:List Int)(x:Int):(pos l x).Nodup:=List.nodup_range.filter _
theorem tu(l:List Int)(s:Nat)(hs:s<l.length):(freeTo l (pos l 3)).getD s 0=if l.getD s 0=3 then 0 else l.getD s 0:=by
 rw[WX _ _ (TF l 3) (fun k hk=>Yg.1 hk) s];by_cases h:l.getD s 0=3
 .rw [if_pos (Yg.2 ⟨hs,h⟩),if_pos h]
 .rw [if_neg (fun e=>h (Yg.1 e).2),if_neg h]
theorem TieL.freed(h:TieL bl sl ps st K o):TieL bl sl ps (freeTo st (pos st 3)) K o:=by
 have hg:∀s,s<sl->(freeTo st (pos st 3)).getD s 0=if st.getD s 0=3 then 0 else st.getD s 0:=fun s hs=>tu st s jP
 exact{h with
  hsl:=by rw[rk];exact h.hsl
  live:=fun k hk hn=>by
   obtain⟨s,hs,he,h2⟩:=h.slot hk hn;rw[he,qxu,hg s hs,h2];decide
  used:=fun s hs h2=>by
   rw[hg s hs]at h2;split at h2
   .cases h2
   .exact h.used s hs h2
  opn:=fun s hs=>by
   rw[hg s hs,<-h.opn s hs];split
   .next e=>rw[e];decide
   .rfl
  rng:=fun s hs=>by
   rw[hg s hs];split
   .decide
   .exact h.rng s hs}
theorem TieL.turned(h:TieL bl sl ps st K o){s:Nat}{t:Int}{o':Option Nat}(hs:s<sl)(h2:st.getD s 0≠2)(ht2:t≠2)(ht:0<=t/\t<=4)(ho:∀r,r<sl->(if r=s then t=1 else o=some r)=(o'=some r))(ho':∀r,o'=some r->r<sl):TieL bl sl ps (st.set s t) K o':=by
 have hl:s<st.length:=by rw[h.hsl];exact hs
 have hg:∀r,(st.set s t).getD r 0=if r=s then t else st.getD r 0:=fun r=>by
  rw[yh];by_cases e:s=r
  .subst e;rw[if_pos ⟨rfl,hl⟩,if_pos rfl]
  .rw [if_neg (fun x=>e x.1),if_neg (fun x=>e x.symm)]
 exact{h with
  hsl:=by rw[qzj];exact h.hsl
  live:=fun k hk hn=>by
   obtain⟨r,hr,he,h3⟩:=h.slot hk hn;rw[he,qxu,hg r,if_neg (fun(e:r=s)=>h2 (by rw[<-e];exact h3))];exact h3
  used:=fun r hr h3=>by
   rw[hg r]at h3;split at h3
   .exact absurd h3 ht2
   .exact h.used r hr h3
  opn:=fun r hr=>by
   rw[hg r,<-ho r hr];split
   .exact Iff.rfl
   .exact h.opn r hr
  rng:=fun r hr=>by
   rw[hg r];split
   .exact ht
   .exact h.rng r hr
  olt:=ho'}
theorem TG{t:Int}(h:t=2\/t=3\/t=4):mayB 1 t=true:=by rcases h with rfl|rfl|rfl<;>decide
theorem TieL.shut{s:Nat}(h:TieL bl sl ps st K (some s)){t:Int}(ht:t=3\/t=4):turnCode st (s:Int) t=0/\TieL bl sl ps (turnList st (s:Int) t) K none:=by
 have hs:=h.olt s rfl;have h1:=(h.opn s hs).2 rfl;obtain⟨hc,hl⟩:=vC (l:=st) (s:=s) (t:=t) jP jB (by rw[h1];exact TG (.inr ht));refine⟨hc,?_⟩;rw[hl];refine h.turned hs (by rw[h1];decide) jB jB (fun r hr=>?_) (fun r hr=>by cases hr);split
 .rcases ht with rfl|rfl<;>simp
 .next e=>simp;exact fun e2=>e e2.symm
theorem rH{l:List Int}(h:free l<l.length):l.getD (free l) 0=0:=by
 unfold free at h⊢;have:=List.findIdx_getElem (p:=(·==0)) (xs:=l) (w:=h);simp only[qyh,qyn h,Option.getD_some];simpa using this
theorem TieL.alloc(h:TieL bl sl ps st K none)(hc:allocCode st=0):∃s:Nat,s<sl/\allocVal st=(s:Int)/\st.getD s 0=0/\TieL bl sl ps (allocList st) K (some s):=by
 unfold allocCode at hc;split at hc
 .next hf=>
  have hs:free st<sl:=by rw[<-h.hsl];exact hf
  refine⟨free st,hs,by unfold allocVal;rw[if_pos hf],rH hf,?_⟩;refine h.turned hs (by rw[rH hf];decide) de de (fun r hr=>?_) (fun r hr=>by cases hr;exact hs);split
  .next e=>subst e;simp
  .next e=>simp;exact fun e2=>e e2.symm
 .cases hc
theorem ub{st:List Int}(hc:allocCode st≠0):allocList st=st:=by
 unfold allocCode at hc;split at hc
 .exact absurd rfl hc
 .next h=>exact List.set_eq_of_length_le oM
theorem vD(ps:List (Int×Bool))(k j:Nat)(x:Int×Bool)(hk:k<ps.length):plc (ps.set k x) j=if j=k then x else plc ps j:=by
 rw[plc,yh];by_cases e:k=j
 .subst e;rw[if_pos ⟨rfl,hk⟩,if_pos rfl]
 .rw [if_neg (fun x=>e x.1),if_neg (fun x=>e x.symm)]
theorem TieL.left(h:TieL bl sl ps st K o){k:Int}(hg:getC ps k=0){K':List Int}(hd:K'.Nodup)(hK:∀x,x∈K'↔x∈K/\x≠k):
  turnCode st (getV ps k).1 3=0/\TieL bl sl (dropL ps k) (turnList st (getV ps k).1 3) K' o:=by
 obtain⟨m,hm,rfl,hn⟩:=zX.1 hg;have hmb:m<bl:=by rw[<-h.hpl];exact hm
 obtain⟨s,hs,he,h2⟩:=h.slot hmb hn;rw[xq hm hn,he];obtain⟨hc,hl⟩:=vC (l:=st) (s:=s) (t:=3) jP de (by rw[h2];decide);refine⟨hc,?_⟩;have hp:dropL ps (m:Int)=ps.set m (-1,false):=by unfold dropL;rw[if_pos hg,qxu]
 rw[hl,hp];have hsl:s<st.length:=by rw[h.hsl];exact hs
 have hgs:∀r,(st.set s 3).getD r 0=if r=s then 3 else st.getD r 0:=fun r=>by
  rw[yh];by_cases e:s=r
  .subst e;rw[if_pos ⟨rfl,hsl⟩,if_pos rfl]
  .rw [if_neg (fun x=>e x.1),if_neg (fun x=>e x.symm)]
 have hgp:=fun j=>vD ps m j (-1,false) hm;exact{
  hpl:=by rw[qzj];exact h.hpl
  hsl:=by rw[qzj];exact h.hsl
  good:=h.good.drop m
  live:=fun j hj hjn=>by
   rw[hgp j]at hjn⊢;by_cases e:j=m
   .rw [if_pos e]at hjn;exact absurd rfl hjn
   .rw [if_neg e]at hjn⊢;obtain⟨r,hr,her,hr2⟩:=h.slot hj hjn;rw[her,qxu,hgs r,if_neg (fun e2=>e (h.inj hj hmb (by rw[her];omega) (by rw[her,he,e2])))];exact hr2
  used:=fun r hr h3=>by
   rw[hgs r]at h3;by_cases e:r=s
   .rw [if_pos e]at h3;cases h3
   .rw [if_neg e]at h3;obtain⟨j,hj,hjr⟩:=h.used r hr h3;refine⟨j,hj,?_⟩;rw[hgp j,if_neg (fun e2=>e ?_)]
    .exact hjr
    .subst e2;rw[he]at hjr;exact(Int.ofNat.inj hjr).symm
  opn:=fun r hr=>by
   rw[hgs r,<-h.opn r hr];by_cases e:r=s
   .rw [if_pos e,e,h2];decide
   .rw [if_neg e]
  rng:=fun r hr=>by
   rw[hgs r];split
   .decide
   .exact h.rng r hr
  olt:=h.olt
  kk:=fun x=>by
   rw[hK,h.kk,zX,zX];constructor
   .rintro ⟨⟨j,hj,rfl,hjn⟩,hne⟩;refine⟨j,by rw[qzj];exact hj,rfl,?_⟩;rw[hgp j,if_neg (fun e=>hne (by rw[e]))];exact hjn
   .rintro ⟨j,hj,rfl,hjn⟩;rw[hgp j]at hjn;rw[qzj]at hj;by_cases e:j=m
    .rw [if_pos e]at hjn;exact absurd rfl hjn
    .rw [if_neg e]at hjn;exact⟨⟨j,hj,rfl,hjn⟩,fun e2=>e oM⟩
  kd:=hd}
theorem TieL.clean(h:TieL bl sl ps st K o)(k:Int):TieL bl sl (cleanL ps k) st K o:=by
 by_cases hg:getC ps k=0
 .obtain ⟨m,hm,rfl,hn⟩:=zX.1 hg;have hp:cleanL ps (m:Int)=ps.set m ((plc ps m).1,false):=by unfold cleanL;rw[if_pos hg,xq hm hn,qxu]
  rw[hp];have hmb:m<bl:=by rw[<-h.hpl];exact hm
  obtain⟨s,hs,he,h2⟩:=h.slot hmb hn;have hgp:=fun j=>vD ps m j ((plc ps m).1,false) hm;have hnn:∀j,(plc (ps.set m ((plc ps m).1,false)) j≠(-1,false)↔plc ps j≠(-1,false))/\(plc (ps.set m ((plc ps m).1,false)) j).1=(plc ps j).1:=by
   intro j;rw[hgp j];by_cases e:j=m
   .subst e;rw[if_pos rfl];refine⟨⟨fun _=>hn,fun _ e=>?_⟩,rfl⟩;have:=congrArg Prod.fst e;rw[he]at this;simp at this
   .rw [if_neg e];exact⟨Iff.rfl,rfl⟩
  have hmg:=h.good.clean hm (by rw[<-xQ hm,he];omega);rw[<-xQ hm]at hmg;exact{h with
   hpl:=by rw[qzj];exact h.hpl
   good:=hmg
   live:=fun j hj hjn=>by rw[(hnn j).2];exact h.live j hj ((hnn j).1.1 hjn)
   used:=fun r hr h3=>by obtain⟨j,hj,e⟩:=h.used r hr h3;exact⟨j,hj,by rw[(hnn j).2];exact e⟩
   kk:=fun x=>by
    rw[h.kk,zX,zX];constructor
    .rintro ⟨j,hj,rfl,hjn⟩;exact⟨j,by rw[qzj];exact hj,rfl,(hnn j).1.2 hjn⟩
    .rintro ⟨j,hj,rfl,hjn⟩;exact⟨j,by rw[qzj]at hj;exact hj,rfl,(hnn j).1.1 hjn⟩}
 .unfold cleanL;rw[if_neg hg];exact h
theorem TieL.room{s:Nat}(h:TieL bl sl ps st K (some s)):K.length<sl:=by
 have hs:=h.olt s rfl;have h1:=(h.opn s hs).2 rfl;have hmap:∀x∈K,∃r:Nat,r<sl/\(getV ps x).1=(r:Int)/\r≠s/\∃m:Nat,m<ps.length/\x=(m:Int)/\plc ps m≠(-1,false):=by
  intro x hx;obtain⟨m,hm,rfl,hn⟩:=zX.1 ((h.kk x).1 hx);obtain⟨r,hr,he,h2⟩:=h.slot (by rw[<-h.hpl];exact hm) hn;exact⟨r,hr,by rw[xq hm hn];exact he,(fun(e:r=s)=>by rw[e,h1]at h2;cases h2),m,hm,rfl,hn⟩
 have hnd:(s::K.map (fun x=>(getV ps x).1.toNat)).Nodup:=by
  rw[qXb];constructor
  .intro hm;obtain⟨x,hx,e⟩:=qzv.1 hm;obtain⟨r,hr,he,hne,-⟩:=hmap x hx;rw[he,qxu]at e;exact hne e
  .have hd:=h.kd;clear hs h1;have key:∀L:List Int,L.Nodup->(∀x∈L,x∈K)->(L.map (fun x=>(getV ps x).1.toNat)).Nodup:=by
    intro L
    induction L with
    |nil=>intro _ _;exact qXc
    |cons x L ih=>
     intro hL hK;rw[qXb]at hL;rw[qzm,qXb];refine⟨fun hm=>?_,ih hL.2 (fun y hy=>hK y (by simp[hy]))⟩;obtain⟨y,hy,e⟩:=qzv.1 hm;obtain⟨r,hr,he,-,m,hm',rfl,hn⟩:=hmap x (hK x oe);obtain⟨r2,hr2,he2,-,m2,hm2,rfl,hn2⟩:=hmap y (hK y (by simp[hy]));rw[he,he2,qxu,qxu]at e;rw[xq hm' hn]at he;rw[xq hm2 hn2]at he2;have:=h.inj (i:=m) (j:=m2) (by rw[<-h.hpl];exact hm') (by rw[<-h.hpl];exact hm2) (by rw[he];omega) (by rw[he,he2,e]);exact hL.1 (by rw[this];exact hy)
   exact key K hd (fun x hx=>hx)
 have:=xx sl _ hnd (fun r hr=>by
  rcases qzr.1 hr with rfl|hr
  .exact hs
  .obtain ⟨x,hx,rfl⟩:=qzv.1 hr;obtain⟨r,hr,he,-⟩:=hmap x hx;rw[he,qxu];exact hr)
 simp at this;omega
end
abbrev CaS.Tie(n:CaN)(a:CaS)(o:Option Nat):Prop:=TieL n.bl n.sl a.ps a.st a.K o
section
variable{n:CaN}{a:CaS}{o:Option Nat}
theorem CaS.Tie.ckpt(h:a.Tie n o):(a.ckpt n).1.Tie n o:=by
 unfold CaS.ckpt;split
 .exact h
 split
 .exact h
 split
 .exact h
 .exact TieL.freed h
theorem CaS.Tie.j8(h:a.Tie n o):(a.j8 n).1.Tie n o:=by
 unfold CaS.j8;split
 .exact h
 .exact CaS.Tie.ckpt h
theorem CaS.Tie.kh(h:a.Tie n o):(a.kh n).1.Tie n o:=by
 unfold CaS.kh;split
 .exact h
 split
 .exact h
 .exact TieL.freed h
theorem CaS.Tie.evLeft(h:a.Tie n o)(hc:a.evC n=0):getC a.ps (a.evK n)=0/\turnCode a.st (getV a.ps (a.evK n)).1 3=0/\((a.ev n).left n (a.evK n)).Tie n o:=by
 rcases evR_cases (cleanB a.ps) n.sl a.K a.A a.H with⟨h1,-⟩|⟨-,i,A',hi,he,hf,-⟩
 .have:a.evC n=14:=h1;rw[this]at hc;cases hc
 .have hk:a.evK n=a.K[i]:=by rw[CaS.evK,he]
  have hg:=Zg hf;rw[<-hk]at hg;have hp:=EvG.restK_perm hi;have hd:(a.K[i]::EvG.restK a.K i).Nodup:=hp.nodup_iff.2 h.kd;rw[qXb]at hd;have:=TieL.left h hg (K':=EvG.restK a.K i) hd.2 (fun x=>by
   rw[hk,<-hp.mem_iff,qzr];constructor
   .intro hx;exact⟨.inr hx,fun e=>hd.1 (e▸hx)⟩
   .rintro ⟨hx|hx,hne⟩
    .exact absurd hx hne
    .exact hx)
  refine⟨hg,this.1,?_⟩;show TieL n.bl n.sl (dropL a.ps (a.evK n)) (turnList a.st (getV a.ps (a.evK n)).1 3) (EvG.evR (cleanB a.ps) n.sl a.K a.A a.H).2.2.1 o;rw[he];exact this.2
theorem CaS.Tie.evNo(h:a.Tie n o)(hc:a.evC n≠0):(a.ev n).Tie n o:=by
 rcases evR_cases (cleanB a.ps) n.sl a.K a.A a.H with⟨-,he⟩|⟨h1,-⟩
 .show TieL n.bl n.sl a.ps a.st (EvG.evR (cleanB a.ps) n.sl a.K a.A a.H).2.2.1 o;rw[he];exact h
 .exact absurd h1 hc
theorem CaS.Tie.kq{n:CaN}{o:Option Nat}:∀(m g:Nat) {a:CaS},a.Tie n o->(CaS.kq n m g a).1.Tie n o
 |0,g,a,h=>h
 |m+1,g,a,h=>by
  have hr:=CaS.Tie.j8 h;simp only[CaS.kq];split
  .exact h
  split
  .exact hr
  split
  .next hc=>exact CaS.Tie.evNo hr hc
  .next hc=>
   obtain⟨-,h2,h3⟩:=CaS.Tie.evLeft hr (qxq hc);split
   .exact h3
   .exact CaS.Tie.kq m (g+1) h3
def CaS.TakeOk(n:CaN)(r:CaS×Int×Bool×Int):Prop:=
 (r.2.2.1=true/\r.2.2.2=0/\r.1.next+1<=r.1.cov+n.jo/\∃s:Nat,r.2.1=(s:Int)/\r.1.Tie n (some s))\/(r.2.2.1=false/\r.1.Tie n none)
theorem CaS.Tie.kE{s:Nat}(h:a.Tie n (some s))(h1:1<=a.next)(hj:4<=n.jo):CaS.TakeOk n (a.kE n (s:Int)):=by
 have hr:=CaS.Tie.j8 h;unfold CaS.kE;split
 .next hc=>exact .inl ⟨rfl,rfl,CaS.kC hc h1 hj,s,rfl,hr⟩
 .exact .inr ⟨rfl,(TieL.shut hr (.inl rfl)).2⟩
theorem CaS.evicts_next(n:CaN):∀(m g:Nat) (a:CaS),a.next<=(CaS.kq n m g a).1.next
 |0,g,a=>qXv _
 |m+1,g,a=>by
  have hn:=(a.j9 n).1;simp only[CaS.kq];split
  .exact qXv _
  split
  .show a.next<=(a.j8 n).1.next;omega
  split
  .show a.next<=(a.j8 n).1.next;omega
  split
  .show a.next<=(a.j8 n).1.next+1;omega
  .have:=CaS.evicts_next n m (g+1) (((a.j8 n).1.ev n).left n ((a.j8 n).1.evK n));exact qXx (by show a.next<=(a.j8 n).1.next+1;omega) this
theorem CaS.Tie.take3(h:a.Tie n none)(h1:1<=a.next)(hj:4<=n.jo):CaS.TakeOk n (a.take3 n):=by
 have hc:=CaS.Tie.kh h;have hn:=(a.committed_next n).1;unfold CaS.take3;split
 .exact .inr ⟨rfl,hc⟩
 split
 .next ha=>
  refine .inr ⟨rfl,?_⟩;show TieL n.bl n.sl (a.kh n).1.ps (allocList (a.kh n).1.st) (a.kh n).1.K none;rw[ub ha];exact hc
 .next ha=>
  obtain⟨s,hs,hv,-,ht⟩:=TieL.alloc hc (qxq ha);rw[hv];exact CaS.Tie.kE (a:=(a.kh n).1.al) ht (by show 1<=(a.kh n).1.next;omega) hj
theorem CaS.Tie.kG(h:a.Tie n none)(h1:1<=a.next)(hj:4<=n.jo):CaS.TakeOk n (a.kG n):=by
 unfold CaS.kG;split
 .exact .inr ⟨rfl,h⟩
 .exact CaS.Tie.take3 h h1 hj
theorem CaS.Tie.take1(h:a.Tie n none)(h1:1<=a.next)(hj:4<=n.jo):CaS.TakeOk n (a.take1 n):=by
 have he:=CaS.Tie.kq (n:=n) 1 0 h;have hn:=CaS.evicts_next n 1 0 a;unfold CaS.take1;split
 .split
  .exact .inr ⟨rfl,he⟩
  .exact CaS.Tie.kG he oM hj
 .exact CaS.Tie.kG h h1 hj
theorem CaS.Tie.kj(h:a.Tie n none)(h1:1<=a.next)(hj:4<=n.jo):CaS.TakeOk n (a.kj n):=by
 unfold CaS.kj;split
 .next ha=>
  obtain⟨s,hs,hv,-,ht⟩:=TieL.alloc h ha;rw[hv];exact CaS.Tie.kE (a:=a.al) ht h1 hj
 .next ha=>
  have:a.al.Tie n none:=by
   show TieL n.bl n.sl a.ps (allocList a.st) a.K none;rw[ub ha];exact h
  exact CaS.Tie.take1 this h1 hj
theorem CaS.Fit.kj{N:Nat}(h:a.Fit N)(h1:1<=a.next)(hwl:∀b:CaS,(b=a.al\/b=(CaS.kq n 1 0 a.al).1)->b.W.length<=n.jo):(a.kj n).1.Fit (N+2*n.pa+n.jo+1):=by
 have h2:∀{b:CaS} {M:Nat},b.Fit M->b.W.length<=n.jo->(b.kG n).1.Fit (M+n.jo+n.pa):=by
  intro b M hb hw;have hc:=hb.kh (n:=n) hw;unfold CaS.kG;split
  .exact hb.mono oM
  .unfold CaS.take3;split
   .exact hc.mono oM
   split
   .exact hc.al.mono oM
   .exact hc.al.kE _
 have he:=CaS.Fit.kq (n:=n) 1 0 h.al h1;unfold CaS.kj;split
 .exact (h.al.kE _).mono oM
 .unfold CaS.take1;split
  .split
   .exact he.mono oM
   .exact (h2 he (hwl _ (.inr rfl))).mono oM
  .exact (h2 h.al (hwl _ (.inl rfl))).mono oM
end
section
variable{bl sl:Nat}{ps:List (Int×Bool)}{st K:List Int}{s k:Nat}
theorem TieL.putC(h:TieL bl sl ps st K (some s))(hk:k<bl):putC ps sl (k:Int) (s:Int)=0:=by
 have hs:=h.olt s rfl;have h1:=(h.opn s hs).2 rfl;have hpl:=h.hpl;unfold Go.Proofs.YtfhfbpmlnjdfoaaGreatDoor.putC;rw[if_neg oM,if_pos]
 left
 cases ha:atOf ps (s:Int)with
 |none=>rfl
 |some j=>
  obtain⟨-,hj,he⟩:=yU ha;have hn:plc ps j≠(-1,false):=by
   rw[xQ hj];intro e;rw[e]at he;simp at he
  have h2:=h.live j oM hn;rw[xQ hj,he,qxu,h1]at h2;cases h2
theorem TieL.put(h:TieL bl sl ps st K (some s))(hk:k<bl)(d:Bool):
  putL ps sl (k:Int) (s:Int) d=ps.set k ((s:Int),d)/\uD ps sl (k:Int) (s:Int)=plc ps k/\turnCode st (s:Int) 2=0/\turnList st (s:Int) 2=st.set s 2/\
   (plc ps k=(-1,false)->(k:Int)∉K/\K.length≠sl/\TieL bl sl (ps.set k ((s:Int),d)) (st.set s 2) (K++[(k:Int)]) none)/\
   (plc ps k≠(-1,false)->(k:Int)∈K/\TieL bl sl (ps.set k ((s:Int),d)) (turnList (st.set s 2) (plc ps k).1 3) K none):=by
 have hc:=h.putC hk;have hs:=h.olt s rfl;have h1:=(h.opn s hs).2 rfl;have hkl:k<ps.length:=by rw[h.hpl];exact hk
 have hsl:s<st.length:=by rw[h.hsl];exact hs
 obtain⟨ht,htl⟩:=vC (l:=st) (s:=s) (t:=2) hsl de (by rw[h1];decide);have hgp:=fun j=>vD ps k j ((s:Int),d) hkl;have hgs:∀r,(st.set s 2).getD r 0=if r=s then 2 else st.getD r 0:=fun r=>by
  rw[yh];by_cases e:s=r
  .subst e;rw[if_pos ⟨rfl,hsl⟩,if_pos rfl]
  .rw [if_neg (fun x=>e x.1),if_neg (fun x=>e x.symm)]
 have hno:∀j,j<bl->plc ps j≠(-1,false)->(plc ps j).1≠(s:Int):=by
  intro j hj hn e;have:=h.live j hj hn;rw[e,qxu,h1]at this;cases this
 have hgood:Good (ps.set k ((s:Int),d)) sl:=by
  refine h.good.put hkl d oM oM ?_
  left
  cases ha:atOf ps (s:Int)with
  |none=>rfl
  |some j=>
   obtain⟨-,hj,he⟩:=yU ha;refine absurd ?_ (hno j (by rw[<-h.hpl];exact hj) ?_)
   .rw [xQ hj];exact he
   .rw [xQ hj];intro e;rw[e]at he;simp at he
 have hnn:∀j,plc (ps.set k ((s:Int),d)) j≠(-1,false)↔(j=k\/plc ps j≠(-1,false)):=by
  intro j;rw[hgp j];by_cases e:j=k
  .rw [if_pos e];refine⟨fun _=> .inl e,fun _ e2=>?_⟩;have:=congrArg Prod.fst e2;simp at this
  .rw [if_neg e];exact⟨.inr,fun hx=>hx.resolve_left e⟩
 have hkk:∀x:Int,getC (ps.set k ((s:Int),d)) x=0↔(x=(k:Int)\/getC ps x=0):=by
  intro x;rw[zX,zX];constructor
  .rintro ⟨j,hj,rfl,hn⟩;rw[qzj]at hj;rcases(hnn j).1 hn with rfl|hn
   .exact .inl rfl
   .exact .inr ⟨j,hj,rfl,hn⟩
  .rintro (rfl|⟨j,hj,rfl,hn⟩)
   .exact ⟨k,by rw[qzj];exact hkl,rfl,(hnn k).2 (.inl rfl)⟩
   .exact ⟨j,by rw[qzj];exact hj,rfl,(hnn j).2 (.inr hn)⟩
 refine⟨by unfold putL;rw[if_pos hc,qxu],by unfold uD;rw[if_pos hc,qxu],ht,htl,fun he=>?_,fun he=>?_⟩
 .have hnk:(k:Int)∉K:=fun hm=>by
   obtain⟨m,hm1,hm2,hm3⟩:=zX.1 ((h.kk k).1 hm);obtain rfl:k=m:=oM;exact hm3 he
  refine⟨hnk,by have:=h.room;omega,?_⟩;exact{
   hpl:=by rw[qzj];exact h.hpl
   hsl:=by rw[qzj];exact h.hsl
   good:=hgood
   live:=fun j hj hn=>by
    rw[hgp j];by_cases e:j=k
    .rw [if_pos e,qxu,hgs s,if_pos rfl]
    .rw [if_neg e];obtain⟨r,hr,her,hr2⟩:=h.slot hj (((hnn j).1 hn).resolve_left e);rw[her,qxu,hgs r];split
     .rfl
     .exact hr2
   used:=fun r hr h2=>by
    by_cases e:r=s
    .exact ⟨k,hk,by rw[hgp k,if_pos rfl,e]⟩
    .rw [hgs r,if_neg e]at h2;obtain⟨j,hj,hjr⟩:=h.used r hr h2;refine⟨j,hj,?_⟩;rw[hgp j,if_neg (fun e2=>?_)]
     .exact hjr
     .rw [e2,he]at hjr;simp at hjr
   opn:=fun r hr=>by
    rw[hgs r];by_cases e:r=s
    .rw [if_pos e];simp
    .rw [if_neg e,h.opn r hr];simp;exact fun e2=>e e2.symm
   rng:=fun r hr=>by
    rw[hgs r];split
    .decide
    .exact h.rng r hr
   olt:=fun r hr=>by cases hr
   kk:=fun x=>by
    rw[hkk,qzq,qzy,h.kk];exact or_comm
   kd:=by
    rw[qXa];exact⟨h.kd,oe,fun x hx y hy e=>by simp at hy;subst hy;subst e;exact hnk hx⟩}
 .have hkK:(k:Int)∈K:=(h.kk k).2 (zX.2 ⟨k,hkl,rfl,he⟩);obtain⟨r0,hr0,her0,hr02⟩:=h.slot hk he;have hrs:r0≠s:=fun e=>hno k hk he (by rw[her0,e]);refine⟨hkK,?_⟩;rw[her0];have hsl2:r0<(st.set s 2).length:=by rw[qzj,h.hsl];exact hr0
  have h22:(st.set s 2).getD r0 0=2:=by rw[hgs r0,if_neg hrs];exact hr02
  rw[(vC (l:=st.set s 2) (s:=r0) (t:=3) hsl2 de (by rw[h22];decide)).2];have hgr:∀r,((st.set s 2).set r0 3).getD r 0=if r=r0 then 3 else if r=s then 2 else st.getD r 0:=fun r=>by
   rw[yh,hgs r];by_cases e:r0=r
   .subst e;rw[if_pos ⟨rfl,hsl2⟩,if_pos rfl]
   .rw [if_neg (fun x=>e x.1),if_neg (fun(x:r=r0)=>e x.symm)]
  exact{
   hpl:=by rw[qzj];exact h.hpl
   hsl:=by rw[qzj,qzj];exact h.hsl
   good:=hgood
   live:=fun j hj hn=>by
    rw[hgp j];by_cases e:j=k
    .rw [if_pos e,qxu,hgr s,if_neg (fun e2=>hrs e2.symm),if_pos rfl]
    .rw [if_neg e];have hn':=((hnn j).1 hn).resolve_left e;obtain⟨r,hr,her,hr2⟩:=h.slot hj hn';rw[her,qxu,hgr r,if_neg (fun e2=>e (h.inj hj hk (by rw[her];omega) (by rw[her,her0,e2])))];split
     .rfl
     .exact hr2
   used:=fun r hr h2=>by
    rw[hgr r]at h2;by_cases e0:r=r0
    .rw [if_pos e0]at h2;cases h2
    .rw [if_neg e0]at h2;by_cases e:r=s
     .exact ⟨k,hk,by rw[hgp k,if_pos rfl,e]⟩
     .rw [if_neg e]at h2;obtain⟨j,hj,hjr⟩:=h.used r hr h2;refine⟨j,hj,?_⟩;rw[hgp j,if_neg (fun e2=>?_)]
      .exact hjr
      .rw [e2,her0]at hjr;exact e0 oM
   opn:=fun r hr=>by
    rw[hgr r];by_cases e0:r=r0
    .rw [if_pos e0];simp
    .rw [if_neg e0];by_cases e:r=s
     .rw [if_pos e];simp
     .rw [if_neg e,h.opn r hr];simp;exact fun e2=>e e2.symm
   rng:=fun r hr=>by
    rw[hgr r];split
    .decide
    .split
     .decide
     .exact h.rng r hr
   olt:=fun r hr=>by cases hr
   kk:=fun x=>by
    rw[hkk,h.kk];constructor
    .exact .inr
    .rintro (rfl|hx)
     .exact (h.kk _).1 hkK
     .exact hx
   kd:=h.kd}
end
theorem CaS.Tie.put{n:CaN}{a:CaS}{s k:Nat}(h:a.Tie n (some s))(hk:k<n.bl)(sum:Nat)(d:Bool):putC a.ps n.sl (k:Int) (s:Int)=0/\(a.kw n (k:Int) s sum d).2=0/\(a.kw n (k:Int) s sum d).1.Tie n none:=by
 obtain⟨h1,h2,h3,h4,h5,h6⟩:=TieL.put h hk d;refine⟨TieL.putC h hk,?_⟩;by_cases hp:plc a.ps k=(-1,false)
 .obtain ⟨h7,h8,h9⟩:=h5 hp;unfold CaS.kw;rw[h2,if_pos (by rw[hp];exact⟨rfl,rfl⟩)];refine⟨by show addC n.sl a.K (k:Int)=0;unfold addC;rw[if_neg h7,if_neg h8],?_⟩;show TieL n.bl n.sl (putL a.ps n.sl (k:Int) (s:Int) d) (turnList a.st (s:Int) 2) (sB n.sl a.K (k:Int)) none;rw[h1,h4,sB,if_neg (by intro e;rcases e with e|e;exact h7 e;exact h8 e)];exact h9
 .obtain ⟨h7,h8⟩:=h6 hp;unfold CaS.kw;rw[h2,if_neg (fun e=>hp (Prod.ext e.1 e.2))];refine⟨by show touchC a.K (k:Int)=0;unfold touchC;rw[if_pos h7],?_⟩;show TieL n.bl n.sl (putL a.ps n.sl (k:Int) (s:Int) d) (turnList (turnList a.st (s:Int) 2) (plc a.ps k).1 3) a.K none;rw[h1,h4];exact h8
theorem CaS.Tie.kM{n:CaN}{a:CaS}{o:Option Nat}(h:a.Tie n o){k:Int}(hg:getC a.ps k=0):turnCode a.st (getV a.ps k).1 3=0/\touchC a.K k=0/\(a.kM n k).Tie n o:=by
 have hk:=(h.kk k).2 hg;have:=TieL.left h hg (K':=a.K.erase k) (h.kd.erase k) (fun x=>by rw[h.kd.mem_erase_iff];exact and_comm);refine⟨this.1,by unfold touchC;rw[if_pos hk],this.2⟩
theorem CaS.Tie.kp{n:CaN}{a:CaS}{s:Nat}(h:a.Tie n (some s))(blk:Int)(x:Bk):((a.kp n s blk x).2=0/\(a.kp n s blk x).1.Tie n (some s))\/((a.kp n s blk x).2≠0/\(a.kp n s blk x).1.Tie n none):=by
 unfold CaS.kp;split
 .exact .inl ⟨rfl,h⟩
 .next hc=>exact .inr ⟨hc,(TieL.shut h (.inr rfl)).2⟩
end Go.Proofs.YtfhfbpmlnjdfoaaGreatDoor
