/- A cache behind -/
import Derived.Test.YtbnpkobbnjihjaaGreatDoorG23
set_option maxRecDepth 100000
set_option maxHeartbeats 2000000
namespace Go.Proofs.YtbnpkobbnjihjaaGreatDoor
open Go Go.RowKit Tryz
variable{lb M1 k:Nat}
section
section
variable{n:CaN}{a:CaS}{N:Nat}
theorem CaS.takeR_next(n:CaN)(a:CaS)(s:Int):a.next<=(a.kt n s).1.next:=by
 have h:=(a.jY n).1;unfold CaS.kt;split
 .show a.next<=(a.jX n).1.next;omega
 .show a.next<=(a.jX n).1.next;omega
theorem CaS.take2_next(n:CaN)(a:CaS):a.next<=(a.kv n).1.next:=by
 have h:=(a.committed_next n).1;unfold CaS.kv;split
 .exact qXp _
 .unfold CaS.take3;split
  .show a.next<=(a.jZ n).1.next;omega
  split
  .show a.next<=(a.jZ n).1.next;omega
  .exact qXr (by show a.next<=(a.jZ n).1.next;omega) ((a.jZ n).1.al.takeR_next n _)
theorem CaS.takes_next(n:CaN)(a:CaS):a.next<=(a.j4 n).1.next:=by
 have h:=CaS.evicts_next n 1 0 a.al;unfold CaS.j4;split
 .exact a.al.takeR_next n _
 .unfold CaS.take1;split
  .split
   .exact h
   .exact qXr h ((CaS.j8 n 1 0 a.al).1.take2_next n)
  .exact a.al.take2_next n
theorem CaS.Fit.kq(h:a.Fit N)(s:a.Jg n)(h1:1<=a.next)(A:4<=n.jo)(k:Nat)(x:Bk):(a.kq n k x).1.Fit (N+3*n.pa+n.jo+6):=by
 have j:=h.takes' s h1 A;have D:=a.takes_next n;unfold CaS.kq;split
 .exact j.mono oM
 split
 .exact (j.j6 oM k x).mono oM
 .have q:=j.j7 (n:=n) (a.j4 n).2.1.toNat (k:Int) x;have E:=(qe n (a.j4 n).1 (a.j4 n).2.1.toNat (k:Int) x).1;unfold CaS.backS;split
  .exact q.mono oM
  .exact (q.kh oM (k:Int) _ (crcC x) true (by have:=ZE x;omega)).mono oM
theorem CaS.Fit.gone(h:a.Fit N)(h1:1<=a.next)(k:Int):(a.gone n k).1.Fit (N+n.pa+2):=by
 unfold CaS.gone;split
 .exact h.mono oM
 .exact h.j6 h1 _ _
theorem CaS.Tie.backS{s:Nat}(h:a.Tie n (some s))(A:k<n.bl)(x:Bk):(a.backS n k s x).1.Tie n none:=by
 unfold CaS.backS;rcases CaS.Tie.j7 h (k:Int) x with⟨q,j⟩|⟨q,j⟩
 .rw [if_neg oM];exact(CaS.Tie.put j A (crcC x) true).2.2
 .rw [if_pos q];exact j
theorem CaS.Tie.kq(h:a.Tie n none)(h1:1<=a.next)(q:4<=n.jo)(s:k<n.bl)(x:Bk):(a.kq n k x).1.Tie n none:=by
 have A:=CaS.Tie.j4 h h1 q;unfold CaS.kq;rcases A with⟨h2,E,-,F,D,j⟩|⟨h2,j⟩
 .rw [if_neg oM,if_neg (by rw[h2];decide),D,qxs];exact CaS.Tie.backS j s x
 .split
  .exact j
  .exact CaS.Tie.j6 j k x
theorem CaS.Tie.gone(h:a.Tie n none)(k:Int):(a.gone n k).1.Tie n none:=by
 unfold CaS.gone;split
 .exact h
 .exact CaS.Tie.j6 h _ _
end
theorem wk(n k:Nat):plc (List.replicate n (-1,false)) k=(-1,false):=by
 rw[plc,qyf,qyn];split<;>rfl
theorem vu(n s:Nat):(List.replicate n (0:Int)).getD s 0=0:=by
 rw[qyf,qyn];split<;>rfl
theorem vO(s sl:Nat):TieL s sl (List.replicate s (-1,false)) (List.replicate sl 0) [] none:={
  hpl:=qzd
  hsl:=qzd
  good:=Good.start _ _
  live:=fun k _ h=>absurd (wk _ k) h
  used:=fun j _ h2=>by rw[vu]at h2;cases h2
  opn:=fun j _=>by rw[vu];simp
  rng:=fun j _=>by rw[vu];decide
  olt:=fun j q=>by cases q
  kk:=fun k=>by
   rw[yz];constructor
   .intro q;cases q
   .rintro ⟨m,-,-,h⟩;exact absurd (wk _ m) h
  kd:=qzx}
theorem Em(n:CaN):(zfw n).Tie n none:=(vO n.bl n.sl).freed
def Pl(P:List Int):Prop:=∀x∈P,x=0\/x=1
theorem Pl.tail{P:List Int}(h:Pl P):Pl P.tail:=fun x hx=>h x (List.mem_of_mem_tail hx)
theorem QW(F:List Bk)(O:List (Nat×Bk))(t:Nat)(y:Bk)(s:Nat):curB F (O++[(t,y)]) s=if t=s/\t<F.length then y else curB F O s:=by
 have e:flushF F (O++[(t,y)])=(flushF F O).set t y:=by simp[flushF]
 unfold curB;rw[e,yN,zM]
structure Kp(b:Nat)(F:List Bk)(O:List (Nat×Bk))(P:List Int)(r:DRes):Prop where
 len:r.F.length=F.length
 cur:∀s,b<=s->curB r.F r.O s=curB F O s
 pl:Pl P->Pl r.P
 no:P=[]->r.P=[]
theorem Kp.trans{b:Nat}{F:List Bk}{O:List (Nat×Bk)}{P:List Int}{r q:DRes}(h1:Kp b F O P r)(h2:Kp b r.F r.O r.P q):Kp b F O P q:=
 ⟨h2.len.trans h1.len,fun j s=>(h2.cur j s).trans (h1.cur j s),fun h=>h2.pl (h1.pl h),fun h=>h2.no (h1.no h)⟩
theorem wm(b:Nat)(F:List Bk)(O:List (Nat×Bk))(P:List Int):Kp b F O P (flushR F O P):=by
 unfold flushR;split
 .exact ⟨rfl,fun _ _=>rfl,Pl.tail,fun h=>by rw[h];rfl⟩
 split
 .exact ⟨zM _ _,fun _ _=>rfl,Pl.tail,fun h=>by rw[h];rfl⟩
 .exact ⟨rfl,fun _ _=>rfl,Pl.tail,fun h=>by rw[h];rfl⟩
theorem Zu(b:Nat)(F:List Bk)(O:List (Nat×Bk))(P:List Int)(t:Nat)(y:Bk)(j:t<b):Kp b F O P (writeR F O P t y):=by
 unfold writeR;split
 .exact ⟨rfl,fun _ _=>rfl,Pl.tail,fun h=>by rw[h];rfl⟩
 split
 .exact ⟨rfl,fun q s=>by rw[QW,if_neg oM],Pl.tail,fun h=>by rw[h];rfl⟩
 .exact ⟨rfl,fun _ _=>rfl,Pl.tail,fun h=>by rw[h];rfl⟩
theorem un(F:List Bk)(O:List (Nat×Bk)):flushR F O []=⟨flushF F O,[],[],0⟩:=rfl
theorem wS(F:List Bk)(O:List (Nat×Bk))(t:Nat)(y:Bk):writeR F O [] t y=⟨F,O++[(t,y)],[],0⟩:=rfl
theorem zbc(b:Nat)(F:List Bk)(L:List (Nat×Bk)):∀j P,(∀q∈L,q.1<b)->Kp b F j P (wrsR F L j P):=by
 induction L with
 |nil=>intro j P _;exact⟨rfl,fun _ _=>rfl,fun h=>h,fun h=>h⟩
 |cons x L A=>
  intro j P s;have h1:=Zu b F j P x.1 x.2 (s x oe);have D:=yL F j P x.1 x.2;simp only[wrsR];split
  .have h2:=A (writeR F j P x.1 x.2).O (writeR F j P x.1 x.2).P (fun q E=>s q (by simp[E]));exact Kp.trans h1 (by rw[D];exact h2)
  .exact h1
theorem En(F:List Bk)(L:List (Nat×Bk)):∀h,(wrsR F L h []).cd=0/\(wrsR F L h []).P=[]:=by
 induction L with
 |nil=>intro h;exact⟨rfl,rfl⟩
 |cons x L j=>intro h;rw[wrsR_yes rfl];exact j _
theorem Eo(b:Nat)(F:List Bk)(O:List (Nat×Bk))(P:List Int)(L:List (Nat×Bk))(h:∀j∈L,j.1<b):Kp b F O P (saveR F O P L):=by
 have h1:=zbc b F L O P h;have q:=rQ F L O P;unfold saveR;split
 .exact Kp.trans h1 (by rw[q];exact wm b F _ _)
 .exact h1
theorem QX(F:List Bk)(O:List (Nat×Bk))(L:List (Nat×Bk)):(saveR F O [] L).cd=0:=by
 obtain⟨h1,h2⟩:=En F L O;unfold saveR;rw[if_pos h1,h2];rfl
theorem Tq(b base n:Nat)(F:List Bk)(s:base+n<=b)(q:0<n):∀(W O:List (Nat×Bk)) (P:List Int),Kp b F O P (comW base n F W O P)
 |[],O,P=>⟨rfl,fun _ _=>rfl,fun h=>h,fun h=>h⟩
 |(j,y)::W,O,P=>by
  have h1:=Zu b F O P (base+(j-1)%n) y (by have:=qXu (j-1) q;omega);have A:=yL F O P (base+(j-1)%n) y;unfold comW;split
  .exact Kp.trans h1 (by rw[A];exact Tq b base n F s q W _ _)
  .exact h1
theorem Wo(base n:Nat)(F:List Bk):∀(W O:List (Nat×Bk)),(comW base n F W O []).cd=0/\(comW base n F W O []).P=[]
 |[],O=>⟨rfl,rfl⟩
 |(s,y)::W,O=>by
  unfold comW;rw[if_pos (show(writeR F O [] (base+(s-1)%n) y).cd=0 from rfl)];exact Wo base n F W _
theorem zbd(b base n:Nat)(F:List Bk)(O:List (Nat×Bk))(P:List Int)(W:List (Nat×Bk))(j:base+n<=b)(q:0<n):Kp b F O P (comR base n F O P W).1:=by
 have h1:=wm b F O P;have h2:=h1.trans (Tq b base n (flushR F O P).F j q W (flushR F O P).O (flushR F O P).P);have h:=h2.trans (wm b _ _ _);unfold comR;split
 .exact h1
 split
 .exact h2
 split
 .exact h
 .exact h
theorem Ep(base n:Nat)(F:List Bk)(O W:List (Nat×Bk)):(comR base n F O [] W).1.cd=0/\(comR base n F O [] W).1.O=[]/\(W=[]\/(comR base n F O [] W).2=[]):=by
 obtain⟨h1,h2⟩:=Wo base n (flushF F O) W [];unfold comR;rw[un];dsimp only;by_cases j:W=[]
 .rw [if_pos (.inr j)];exact⟨rfl,rfl,.inl j⟩
 .rw [if_neg (fun h=>h.elim (fun h=>h rfl) j),if_neg (by rw[h1];exact fun h=>h rfl),h2,un,if_neg (by exact fun h=>h rfl)];exact⟨rfl,rfl,.inr rfl⟩
structure CaS.Same(n:CaN)(x y:CaS):Prop where
 dl:y.dF.length=x.dF.length
 bl:y.bF.length=x.bF.length
 d:∀s,n.ke<=s->curB y.dF y.dO s=curB x.dF x.dO s
 b:∀s,curB y.bF y.bO s=curB x.bF x.bO s
 ps:y.ps=x.ps
 sums:y.sums=x.sums
 pd:Pl x.dP->Pl y.dP
 pb:Pl x.bP->Pl y.bP
 nd:x.dP=[]->y.dP=[]
 nb:x.bP=[]->y.bP=[]
section
variable{n:CaN}{a b c:CaS}
theorem CaS.Same.refl(n:CaN)(a:CaS):CaS.Same n a a:=⟨rfl,rfl,fun _ _=>rfl,fun _=>rfl,rfl,rfl,fun h=>h,fun h=>h,fun h=>h,fun h=>h⟩
theorem CaS.Same.trans(h:CaS.Same n a b)(g:CaS.Same n b c):CaS.Same n a c:=
 ⟨g.dl.trans h.dl,g.bl.trans h.bl,fun j q=>(g.d j q).trans (h.d j q),fun j=>(g.b j).trans (h.b j),g.ps.trans h.ps,g.sums.trans h.sums,fun x=>g.pd (h.pd x),fun x=>g.pb (h.pb x),fun x=>g.nd (h.nd x),fun x=>g.nb (h.nb x)⟩
theorem CaS.Same.onD{r:DRes}(h:Kp n.ke a.dF a.dO a.dP r):CaS.Same n a (a.dev r):={CaS.Same.refl n a with dl:=h.len,d:=h.cur,pd:=h.pl,nd:=h.no}
theorem CaS.Same.onB{r:DRes}(h:Kp 0 a.bF a.bO a.bP r):CaS.Same n a (a.ki r):={CaS.Same.refl n a with bl:=h.len,b:=fun s=>h.cur s (qXz _),pb:=h.pl,nb:=h.no}
theorem CaS.same_fb(n:CaN)(a:CaS):CaS.Same n a a.fb:=CaS.Same.onB (wm 0 _ _ _)
theorem CaS.same_fd(n:CaN)(a:CaS):CaS.Same n a a.fd:=CaS.Same.onD (wm _ _ _ _)
theorem CaS.svR_kp(n:CaN)(a:CaS):Kp n.ke a.dF a.dO a.dP (a.svR n):=by
 refine Eo _ _ _ _ _ fun s q=>?_;obtain⟨i,j,rfl⟩:=qzq.1 q;have j:=qzs.1 j;show 1+(1-a.which)*n.pa+i<n.ke;have:(1-a.which)*n.pa<=1*n.pa:=qXv _ oM;unfold CaN.ke;omega
theorem CaS.same_sv(n:CaN)(a:CaS):CaS.Same n a (a.dev (a.svR n)):=CaS.Same.onD (a.svR_kp n)
theorem CaS.same_ckpt(n:CaN)(a:CaS):CaS.Same n a (a.ckpt n).1:=by
 have h1:=a.same_fb n;have h2:=h1.trans (a.fb.same_fd n);have h:=h2.trans (a.fb.fd.same_sv n);unfold CaS.ckpt;split
 .exact h1
 split
 .exact h2
 split
 .exact h
 .exact {h with}
def CaS.NoP(a:CaS):Prop:=a.dP=[]/\a.bP=[]
theorem CaS.Same.noP(h:CaS.Same n a b)(j:a.NoP):b.NoP:=⟨h.nd j.1,h.nb j.2⟩
theorem CaS.NoP.ckpt(h:a.NoP):(a.ckpt n).2=0:=by
 have j:(flushR a.bF a.bO a.bP).cd=0:=by rw[h.2];rfl
 have q:(flushR a.fb.dF a.fb.dO a.fb.dP).cd=0:=by show(flushR a.dF a.dO a.dP).cd=0;rw[h.1];rfl
 have s:(a.fb.fd.svR n).cd=0:=by
  have A:a.fb.fd.dP=[]:=by show(flushR a.dF a.dO a.dP).P=[];rw[h.1];rfl
  unfold CaS.svR;rw[A];exact QX _ _ _
 unfold CaS.ckpt;rw[if_neg (fun x=>x j),if_neg (fun x=>x q),if_neg (fun x=>x s)]
theorem CaS.same_roomed(n:CaN)(a:CaS):CaS.Same n a (a.jX n).1:=by
 unfold CaS.jX;split
 .exact CaS.Same.refl n a
 .exact a.same_ckpt n
theorem CaS.NoP.jX(h:a.NoP):(a.jX n).2=0:=by
 unfold CaS.jX;split
 .rfl
 .exact h.ckpt
theorem CaS.same_cm(n:CaN)(h:1<=n.jo)(a:CaS):CaS.Same n a (a.cm n):=
 {CaS.Same.onD (n:=n) (a:=a) (zbd n.ke (1+2*n.pa) n.jo a.dF a.dO a.dP a.W (by unfold CaN.ke;omega) h)with}
theorem CaS.same_committed(n:CaN)(h:1<=n.jo)(a:CaS):CaS.Same n a (a.jZ n).1:=by
 have h1:=a.same_fb n;have h2:=h1.trans (a.fb.same_cm n h);unfold CaS.jZ;split
 .exact h1
 split
 .exact h2
 .exact {h2 with}
theorem CaS.NoP.jZ(h:a.NoP):(a.jZ n).2=0/\(a.jZ n).1.dO=[]/\(a.jZ n).1.bO=[]/\(a.jZ n).1.st=freeTo a.st (pos a.st 3):=by
 have q:(flushR a.bF a.bO a.bP).cd=0:=by rw[h.2];rfl
 have s:a.fb.bO=[]:=by show(flushR a.bF a.bO a.bP).O=[];rw[h.2];rfl
 have j:=Ep (1+2*n.pa) n.jo a.dF a.dO a.W;have A:a.fb.com n=comR (1+2*n.pa) n.jo a.dF a.dO [] a.W:=by show comR _ _ a.dF a.dO a.dP a.W=_;rw[h.1]
 rw[<-A]at j;unfold CaS.jZ;rw[if_neg (fun x=>x q),if_neg (fun x=>x j.1)];exact⟨rfl,j.2.1,s,rfl⟩
theorem CaS.same_al(n:CaN)(a:CaS):CaS.Same n a a.al:={CaS.Same.refl n a with}
theorem CaS.same_turned(n:CaN)(a:CaS)(l:List Int):CaS.Same n a {a with st:=l}:={CaS.Same.refl n a with}
theorem CaS.same_takeR(n:CaN)(a:CaS)(s:Int):CaS.Same n a (a.kt n s).1:=by
 have h:=a.same_roomed n;unfold CaS.kt;split
 .exact h
 .exact h.trans (CaS.same_turned n _ _)
theorem CaS.NoP.kt(h:a.NoP)(s:Int):(a.kt n s).2.2.2=0:=by
 unfold CaS.kt;rw[if_pos h.jX]
theorem CaS.same_take3(j:1<=n.jo)(a:CaS):CaS.Same n a (a.take3 n).1:=by
 have h:=a.same_committed n j;unfold CaS.take3;split
 .exact h
 split
 .exact h.trans (CaS.same_al n _)
 .exact (h.trans (CaS.same_al n _)).trans (CaS.same_takeR n _ _)
theorem CaS.NoP.take3(j:1<=n.jo)(h:a.NoP):(a.take3 n).2.2.2=0:=by
 unfold CaS.take3;rw[if_neg (fun x=>x h.jZ.1)];split
 .rfl
 .exact CaS.NoP.kt (((a.same_committed n j).trans (CaS.same_al n _)).noP h) _
theorem CaS.same_take2(h:1<=n.jo)(a:CaS):CaS.Same n a (a.kv n).1:=by
 unfold CaS.kv;split
 .exact CaS.Same.refl n a
 .exact CaS.same_take3 h a
theorem CaS.NoP.kv(h:1<=n.jo)(j:a.NoP):(a.kv n).2.2.2=0:=by
 unfold CaS.kv;split
 .rfl
 .exact j.take3 h
end
section
variable{n:CaN}{a b:CaS}{v:Nat->Bk}
theorem CaS.NoP.j8{o:Option Nat}:∀(m g:Nat) {a:CaS},a.NoP->a.Tie n o->(CaS.j8 n m g a).2.2=0/\(CaS.j8 n m g a).1.NoP
 |0,g,a,h,_=>⟨rfl,h⟩
 |m+1,g,a,h,q=>by
  have j:=(a.same_roomed n).noP h;have s:=CaS.Tie.jX q;simp only[CaS.j8];split
  .exact ⟨rfl,h⟩
  rw[if_neg (fun x=>x h.jX)];split
  .exact ⟨rfl,j⟩
  .next A=>
   obtain⟨-,h2,D⟩:=CaS.Tie.evLeft s (Decidable.of_not_not A);rw[if_neg (fun x=>x h2)];exact CaS.NoP.j8 m (g+1) (a:=((a.jX n).1.ev n).left n ((a.jX n).1.evK n)) j D
theorem CaS.NoP.j4(j:1<=n.jo)(s:a.NoP)(A:a.Tie n none):(a.j4 n).2.2.2=0/\(a.j4 n).1.NoP:=by
 have h:a.al.NoP:=s;unfold CaS.j4;split
 .exact ⟨CaS.NoP.kt h _,(CaS.same_takeR n _ _).noP h⟩
 .next D=>
  have E:a.al.Tie n none:=by
   show TieL n.bl n.sl a.ps (allocList a.st) a.K none;rw[um D];exact A
  have q:=CaS.NoP.j8 1 0 h E;unfold CaS.take1;split
  .rw [if_neg (fun x=>x q.1)];exact⟨CaS.NoP.kv j q.2,(CaS.same_take2 j _).noP q.2⟩
  .exact ⟨CaS.NoP.kv j h,(CaS.same_take2 j _).noP h⟩
theorem CaS.NoP.kh(h:a.NoP)(k:Int)(s j:Nat)(d:Bool):(a.kh n k s j d).1.NoP:=by
 unfold CaS.kh;split
 .exact h
 .exact h
end
section
variable{n:CaN}{a b:CaS}{v:Nat->Bk}{N:Nat}
def dirtL(ps:List (Int×Bool)):List Nat:=(List.range ps.length).filter fun k=>(plc ps k).2
end
open Go Go.RowKit Go.Shelf Tryz
attribute [local go_sem] qYb
section
variable{own:Nat->Nat}{w w':World}{c:Nat}{n:CaN}{p:CaP}{a:CaS}{N:Nat}
abbrev CaN.cells(n:CaN):List Value:=superC n.id n.bl n.sl n.jo n.pa n.lo n.ba
theorem xH(h:CaAt own w c n p a):Calls prog 36 #[ptr c] w fun e w'=>e=.returned (.agg n.cells.toArray)/\Below w.heap.size w w':=by
 obtain⟨w1,A⟩:=qqe (w.alloc (.cells #[.int .i64 0,.int .i64 0,.int .i64 0,.int .i64 0,.int .i64 0,.int .i64 0,.int .i64 0] 38));have H:=qqu A;have D:=qqg A;have J:Below w.heap.size w w1:=by rw[A];exact(qxl _ w).alloc (qXp _) _
 obtain⟨s0,K,L,M,O,Q,R⟩:=(h.new H).sup;have E:w1.rangeAt c 0 n.cells:=fun F v j=>by
  rw[qXy];rcases F with _|_|_|_|_|_|_|F
  .cases j;exact s0
  .cases j;exact K
  .cases j;exact L
  .cases j;exact M
  .cases j;exact O
  .cases j;exact Q
  .cases j;exact R
  .cases j
 have G:w1.there w.heap.size 0 7:=fun F hj=>by
  rw[za D,zg D,qXy];exact⟨by rw[qxe oz];rfl,rfl⟩
 obtain⟨C,s⟩:=qqe (n.cells);rw[<-s]at E⊢;have S:C.length=7:=by rw[s];rfl
 have q:Hid (w1.rangeAt c 0 C/\(prog.info? 38).map (·.size)=some C.length/\w1.there w.heap.size 0 C.toArray.size/\(prog.info? 38).map (·.size)=some C.toArray.size/\C.toArray.all (·.oneCell')=true/\w1.there w.heap.size 0 C.length/\Below w.heap.size w w1):=by
  refine⟨E,by rw[s];exact xt,(by rw[show C.toArray.size=7 from by rw[s];rfl];exact G),by rw[s];exact xt,qYo (by intro v j;rw[s]at j;simp[CaN.cells]at j;rcases j with rfl|rfl|rfl|rfl|rfl|rfl|rfl<;>rfl),by rw[S];exact G,J⟩
 have T:=qqh A;clear h H D J s0 K L M O Q R E G s S A;go_enter func36,ntmps36
 go_upto_region 3 with fail
 rw[<-T.o];go_wp2_with (first
  |(refine qZa rfl _ _ rfl _ _ rfl C _ q.o.1 underlying38 rfl q.o.2.1 ?_)
  |(refine qZc rfl _ _ _ rfl w.heap.size 0 C.toArray rfl rfl q.o.2.2.1 q.o.2.2.2.1 q.o.2.2.2.2.1 ?_)
  |fail)
 exact qYq (zq rfl _ _ w.heap.size 0 C _ rfl (qYl _ _ _ _ q.o.2.2.2.2.2.1) underlying38 rfl q.o.2.1) rfl ⟨rfl,zj q.o.2.2.2.2.2.2 (zo _ w.heap.size 0 _) (qXp _) (fun k h=>oM)⟩
theorem QY(h:CaAt own w c n p a):Calls prog 354 #[ptr c,UQ 0 n.bl] w (Yc w a.ps 0 n.bl):=by
 obtain⟨w1,j⟩:=qqe (w.alloc (.cells #[.int .i64 0,.int .i64 (n.bl:Int)] 50));have F:=qqu j;have K:=qqg j;have L:Below w.heap.size w w1:=by rw[j];exact(qxl _ w).alloc (qXp _) _
 have M:=(uur (fun _=>False) w1).drew;obtain⟨an,ao,O,-,-⟩:=((h.new F).new M).ix;have aa:=h.ok.b1;have ab:=qqh (zaD O 0 n.bl (by rw[h.pl];omega));obtain⟨-,-,-,-,A,-,-,-,-⟩:=(h.new F).cells;have G:=zf K;have q:=qqh L;have ad:=qqh j;have ae:=underlying50;have af:(prog.info? 50).map (·.size)=some 2:=kR;clear h F K L M O aa j;go_enter func354,ntmps354
 go_upto_region 3 with fail
 rw[<-ad.o];refine qZd (S:=fun Q=>Q.cell? ⟨c,18,none⟩=some (ptr p.ix)/\Q.rangeAt w.heap.size 0 [.int .i64 0,.int .i64 (n.bl:Int)]) kR (by(simp only[qYi,qYk]);exact⟨A,G⟩) (fun H=>?_);refine Wl.i [0,1,2,3] ?_;iterate 4 refine Wl.t H ?_
 refine Wl.o ?_;refine Wl.l 4 (fun w h=>h.2) ae af H ?_;refine Wl.r 5 (fun J s=>?_);go_simp
 refine ab.o.mono ?_;rintro e D ⟨ag,ah,g,ai,aj,rfl,⟨h1,h2,R⟩,T,U,V,W,X,Y,E⟩;have Z:Below w.heap.size w D:=(q.o.drew).trans (E.mono q.o.size);have a6:D.cell? ⟨c,18,none⟩=some (ptr p.ix):=(E.cell (p:=⟨c,18,none⟩) (zH A).2).trans A;have a7:D.rangeAt w.heap.size 0 [.int .i64 0,.int .i64 (n.bl:Int)]:=(uuo (S:=fun _=>False) E).range (show w1.drew.rangeAt w.heap.size 0 _ by rw[qYk];exact G) id;have ak:=qqh (show Yc w a.ps 0 n.bl _ D from⟨ag,ah,g,ai,aj,rfl,⟨qXr q.o.size h1,qXr q.o.size h2,qXr q.o.size R⟩,T,U,V,W,X,Y,Z⟩);clear h1 h2 R T U V W X Y E Z;refine s.o _ _ (⟨a6,a7⟩) (fun a8=>?_);clear s J;refine Wl.r 6 (fun J s=>?_);go_simp
 refine s.o _ _ (a8) (fun am=>?_);clear s J;refine Wl.d ?_;clear H a8 am a6 a7 A G;go_wp2
 go_ret
 exact ak.o
theorem Eq(_hc:True):Calls prog 287 #[ptr c] w fun e w'=>e=.returned (.func (.func 353) #[] #[.pointer (some ⟨w.heap.size,0,none⟩)])/\w'=w.alloc (.cells #[ptr c] 88):=by
 have h:=qqf;go_enter func287,ntmps287
 go_wp2
 go_ret
 exact⟨rfl,rfl⟩
end
attribute [local go_sem] qYb
theorem Wp{m m' l:Nat}{args:Array Value}{W:World}{R:Ending->World->Prop}(h:YieldAt Fence.wide m prog l args W R):YieldAt Fence.wide m' prog l args W R:=by
 obtain⟨j,q,assign,body,hy,s,A⟩:=h;exact⟨j,q,assign,body,hy,s,fun c cs _=>A c cs (fun d D=>by cases D)⟩
theorem VO{P:Program}{c:Code}{j:Act->World->Prop}{q:Exit->Act->World->Prop}{a:Act}{w:World}(h:c.wp P (Exit.then j (fun _ _ _=>False)) a w):c.wp P (Exit.then j q) a w:=
 wp_mono h (fun e a w h=>by
  cases e
  case normal=>exact h
  all_goals exact h.elim)
def QZ(lb M1:Nat)(W:World)(j:Nat):Prop:=j=lb\/j=M1\/∃cs z,W.heap[j]?=some (.cells cs 3 z)
def AF(lb M1:Nat)(W W':World):Prop:=Upd (QZ lb M1 W) W W'
theorem Zv{S:Nat->Prop}{q B:World}(s:Upd S q B){j:Nat}(A:j<q.heap.size)(D:¬S j)(h:QZ lb M1 B j):QZ lb M1 q j:=by
 rcases h with h|h|⟨cs,z,h⟩
 .exact .inl h
 .exact .inr (.inl h)
 .exact .inr (.inr ⟨cs,z,(s.block j A D).symm.trans h⟩)
theorem AF.trans{s B C:World}(h:AF lb M1 s B)(g:AF lb M1 B C):AF lb M1 s C:=
 ⟨g.os.trans h.os,g.tape.trans h.tape,g.output.trans h.output,qXr h.size g.size,fun A j q=>by
  have h1:=h.block A j q;refine(g.block A (qXs j h.size) (fun D=>q (Zv h j q D))).trans h1⟩
theorem AF.put(W:World)(o:Obj):AF lb M1 W (W.putObj M1 o):=(wP W M1 o).mono (fun _ _ e=> .inr (.inl e))
def dmI(L:List It9):List Nat:=(L.filter (·.2.2)).map (·.1)
theorem qI(L h:List It9):dmI (L++h)=dmI L++dmI h:=by simp[dmI]
theorem zbe(L:List It9):(dmI L).length<=L.length:=by
 unfold dmI;rw[qzb];exact List.length_filter_le _ _
theorem Zw(ps:List (Int×Bool)):∀m,m<=ps.length->dmI (visTo ps 0 m)=(List.range m).filter fun k=>(plc ps k).2
 |0,_=>rfl
 |m+1,h=>by
  rw[qXc,List.filter_append,<-Zw ps m oM];have j:m<ps.length:=oM;by_cases s:ps[m]=(-1,false)
  .rw [wG j s];have:(plc ps m).2=false:=by rw[xG j,s]
   rw[List.filter_cons,if_neg (by rw[this];decide),List.filter_nil,qxw]
  .rw [vJ j s,qI]
   congr 1
   cases q:ps[m].2 with
   |true=>
    have:(plc ps m).2=true:=by rw[xG j,q]
    rw[List.filter_cons,if_pos this,List.filter_nil];simp[dmI,q]
   |false=>
    have:(plc ps m).2=false:=by rw[xG j,q]
    rw[List.filter_cons,if_neg (by rw[this];decide),List.filter_nil];simp[dmI,q]
theorem zbf{ps:List (Int×Bool)}{b:Nat}(h:ps.length=b):dmI (vis (spanL ps 0 b) 0)=dirtL ps:=by
 have e:spanL ps 0 b=ps:=by unfold spanL;rw[qya,<-h,List.take_length]
 rw[e];exact Zw ps _ (qXp _)
theorem VP{L h:List It9}(j:L<+:h):dmI L<+:dmI h:=by
 obtain⟨t,rfl⟩:=j;rw[qI];exact List.prefix_append _ _
theorem yO(a b c d e f g:Int)(W:World):(Instr.field 38 (.agg #[.int .i64 a,.int .i64 b,.int .i64 c,.int .i64 d,.int .i64 e,.int .i64 f,.int .i64 g]) 1).run prog W=.ok (.int .i64 b) W:=by
 kernel_rfl
theorem tf(a b c d e f g:Int)(W:World):(Instr.field 38 (.agg #[.int .i64 a,.int .i64 b,.int .i64 c,.int .i64 d,.int .i64 e,.int .i64 f,.int .i64 g]) 2).run prog W=.ok (.int .i64 c) W:=by
 kernel_rfl
theorem zdH{own:Nat->Nat}{w:World}{c:Nat}{n:CaN}{p:CaP}{a:CaS}(h:CaAt own w c n p a)(ao lb M1:Nat)(aK:w.heap[ao]?=some (.cells #[ptr c] 88 (0,0)))(c4:lb<w.heap.size)(_hlc:ao≠lb)(c5:w.heap.size<=M1/\M1<w.heap.size+2)(m:Nat):
  zfo m 353 #[.pointer (some ⟨ao,0,none⟩)] (fun k:Nat=> #[.int .i64 (k:Int)]) (AF lb M1) (fun aB=>aB=dirtL a.ps) (fun A=>A<+:dirtL a.ps) (vis (spanL a.ps 0 n.bl) 0).length w:=by
 intro l aL b5 L b6 ap V a7 O af;have c6:=zd aK;have aM:=qqb b6;have b7:=h.new aM;have aN:=aM.jV aK;have aq:=b6.size;obtain⟨w1,ar⟩:=qqe (L.alloc (.cells #[.func (.yield l) #[] #[]] 70));have Q:=qqu ar;obtain⟨aO,aP⟩:=qqe (L.heap.size);have b8:w1.heap[aO]?=some (.cells #[.func (.yield l) #[] #[]] 70 (0,0)):=by rw[ar,aP];exact zc L _ rfl
 have aC:=(uur (fun _=>False) w1).drew;have Y:=(b7.new Q).new aC;have a8:=aC.jV (Q.jV aN);have aa:=aC.jV b8;have aQ:=za (Q.jV aN) 0;simp at aQ;have ab:w1.drew.heap.size=L.heap.size+1:=by rw[ar];simp
 have b9:=qqh (show Calls prog 36 #[ptr c] w1.drew fun e w'=>e=.returned (.agg #[.int .i64 n.id,.int .i64 n.bl,.int .i64 n.sl,.int .i64 n.jo,.int .i64 n.pa,.int .i64 n.lo,.int .i64 n.ba])/\Below w1.drew.heap.size w1.drew w' from xH Y);have c7:=yO (n.id:Int) (n.bl:Int) (n.sl:Int) (n.jo:Int) (n.pa:Int) (n.lo:Int) (n.ba:Int);have hsl:(spanL a.ps 0 n.bl).length<=4096:=by
  have:=h.ok.b2;simp[spanL];omega
 have ad:∀k (Z:k<(spanL a.ps 0 n.bl).length),(spanL a.ps 0 n.bl)[k]=(-1,false)\/0<=(spanL a.ps 0 n.bl)[k].1:=by
  obtain⟨c8,c9,bD,-,-⟩:=h.ix;intro k Z;have e:(spanL a.ps 0 n.bl)[k]=a.ps[k]'(by simp[spanL]at Z;omega):=by simp[spanL]
  rw[e];exact(bD.good.each k _).imp id And.left
 have ag:=h.pl;have bb:=Y13 V a7 O af Y a8 aa ab Q ad ag aq ap;have aD:=Y2 ar aP;clear ap V a7 O af b7 aN ar Q b8 aC Y a8 aa ab aM ad ag aP aq;refine callsIn_of_wp_marks func353 rfl trivial ?_ rfl;simp only[ntmps353,qXh,qyz,qzc,Nat.reduceAdd,Nat.reduceSub,qxi,qxj,qXb,qxx,qzu,qxy];refine wpIn_wide.2 ?_;go_upto_region 1 with fail
 rw[<-aD.o.1,<-aD.o.2];refine VO ?_;refine qZd (S:=fun j=>j.cell? ⟨ao,0,none⟩=some (ptr c)) kR (by(simp only[qYi]);exact aQ) (fun bc=>?_);refine Wl.i [0,1] ?_;iterate 2 refine Wl.t bc ?_
 refine Wl.o ?_;refine Wl.r 2 (fun ah D=>?_);go_simp
 refine b9.o.mono ?_;rintro e bE ⟨rfl,bd⟩;obtain⟨V,a7,O,af,Y,a8,aa,ab,Q,ad,ag,aq,ap⟩:=bb.o;have W:Upd (fun _=>False) w1.drew bE:=uuo bd;have be:=Y.new W;have au:=W.jV a8;have ai:=W.jV aa;have av:=za au 0;simp at av;have aj:=qqh (QY be);have aE:=W.size;have bf:=Y5 au ai ab aE W;clear V a7 O af Y a8 aa ab Q ad ag aq ap W be au ai aE bd;refine D.o _ _ (av) (fun bg=>?_);clear D ah;refine Wl.i [3] (Wl.t bg (Wl.o ?_));refine Wl.r 4 (fun ah D=>?_);go_simp
 refine D.o _ _ (av) (fun bF=>?_);clear D ah;refine Wl.r 5 (fun ah D=>?_);go_simp
 refine aj.o.mono ?_;rintro e J ⟨bh,aR,g,bG,bH,rfl,⟨cb,cc,cd⟩,bI,⟨ce,cf,bi⟩,⟨ch,ci,R⟩,bj,bJ,bk,aw⟩;have bn:=(aw.cell (p:=⟨ao,0,none⟩) (zd bf.o.1)).trans av;refine D.o _ _ (bn) (fun bK=>?_);clear D ah;refine Wl.d ?_;clear bc bg bF bK aQ av bn b9 aj;go_wp2_with fail
 obtain⟨V,a7,O,af,Y,a8,aa,ab,Q,ad,ag,aq,ap⟩:=bb.o;obtain⟨au,ai,-,aE,W⟩:=bf.o;have cj:=aw.size;have ae:=(aw.block _ (zd ai)).trans ai;have cl:=aD.o.2;have bo:Upd (fun _=>False) L J:=(Q.trans (uur (fun _=>False) w1).drew).trans (W.trans (uuo aw));obtain⟨K,aF⟩:∃K:Nat->Prop,K=fun s=>QZ lb M1 J s\/J.heap.size<=s:=⟨_,rfl⟩
 have aS:∀s,J.heap.size<=s->K s:=fun s G=>by rw[aF];exact .inr G
 have aG:∀{s:Nat} {cs:Array Value} {t:TypeId} {z:Nat×Nat},J.heap[s]?=some (.cells cs t z)->t≠3->s≠lb->s≠M1->¬K s:=fun G bL h1 h2 q=>by
  rw[aF]at q;rcases q with(q|q|⟨bM,bN,q⟩)|q
  .exact h1 q
  .exact h2 q
  .rw [G]at q;cases q;exact bL rfl
  .have:=zd G;omega
 obtain⟨ak,bp⟩:=qqe (spanL a.ps 0 n.bl);rw[<-bp]at bj bk ad hsl O;have bO:dmI (vis ak 0)=dirtL a.ps:=by rw[bp];exact zbf ag
 have bP:¬K g:=aG R de oM oM;have bQ:¬K aR:=aG bi de oM oM;have aT:¬K aO:=aG ae de oM oM;have aU:∀r,J.heap.size<=r->L.heap.size<=r:=fun r T=>oM;have bq:∀{aV:List Nat->World->Prop} {aW:List Nat} {j H:World},OwnFrom L.heap.size aV->aV aW j->Upd (fun _=>False) j H->aV aW H:=fun bR h E=>bR _ _ _ none h ⟨E.os,E.tape,E.output,E.size,fun k Z _=>E.block k Z (fun h=>h)⟩ (fun r e=>by cases e);have bS:aL [] J:=bq V af bo;have br:∀{j H:World},Upd K J j->AF lb M1 j H->Upd K j H/\KeepsFrom J.heap.size j H:=fun{j H} E Z=>by
  have bT:∀s,QZ lb M1 j s->K s:=fun s U=>by
   rw[aF];by_cases G:s<J.heap.size
   .by_cases q:K s
    .rw [aF]at q;exact q
    .exact .inl (Zv E G q U)
   .exact .inr oM
  refine⟨Z.mono (fun s _ U=>bT s U),Z.size,fun k o co aX bU=>?_⟩;refine(Z.block k (Array.getElem?_eq_some_iff.1 aX).1 (fun U=>?_)).trans aX;rcases U with U|U|⟨bM,bN,U⟩
  .omega
  .omega
  .rw [aX]at U;cases U;cases bU
 have bs:=qqh (fun j H=> @br j H);clear br;have am:=Y6 bO aT ae O aU V;have bV:=qqh a7;clear Y a8 aa ab Q au ai aE W aw bo aG aK h;refine(wpIn_wide (n:=4)).1 ?_
 refine' wpIn_rangeFunc_ownH rfl oM (gf:=203) (lb:= #[.pointer (some ⟨bh,0,none⟩),.pointer (some ⟨aR,0,none⟩)]) rfl trivial (enters_of func203 kR rfl)
  (Za _ oM K bh aR g bG bH ak 0 J hsl oM ad (zd R) (zd bi) bI bP bQ bj bJ bk) uf (fun L l o bW bt=>ww (M:=J.heap.size) aS L l o bW bt) (qxl _ _) (fun _=>rfl)
  (fun A j=>aL (dmI (A.map (·.1))) j/\Upd K J j)
  (fun aY A j=>aY=.ret/\b5 (dmI (A.map (·.1))) j/\Upd K J j)
  (fun A j H ax q R T=>⟨V _ j H ax q.1 R (fun r e=>⟨aU r (T r e).1,(T r e).2⟩),yI q.2 R (fun r e=>aS r (T r e).1)⟩)
  (fun aY A j H ax q R T=>⟨q.1,a7 _ j H ax q.2.1 R (fun r e=>⟨aU r (T r e).1,(T r e).2⟩),yI q.2.2 R (fun r e=>aS r (T r e).1)⟩)
  ⟨bS,uur _ _⟩
  (fun x aZ L=>∃pb,aZ=(_:ItM ak 0->Nat->Act) x pb/\SE x.1 pb L)
  (fun x aZ=>fun aW j H ax q R T=>by obtain⟨pb,e,ay⟩:=q;exact⟨pb,e,Zb _ x.1 pb () j H ax ay R T⟩)
  ?assign ?body ?done ?stop
 case assign=>
  rintro bu A x j ah ⟨G,E⟩ D
  gi_wp2
  have b0:Upd (fun _=>False) j (j.alloc (.cells #[.int .i64 x.1.2.1,.bool x.1.2.2] 231)):=(uur _ _).alloc _;have bX:=World.grownBy_alloc j (.cells #[.int .i64 x.1.2.1,.bool x.1.2.2] 231) none;refine D _ _ (KeepsFrom.of_grownBy bX (fun s e=>by cases e)) (b0.mono fE) ⟨bq V G b0,E.trans (b0.mono fE)⟩ ⟨j.heap.size,?_,zc j _ rfl⟩;generalize j.heap.size=pb;exact rfl
 case body=>
  rintro bu A ⟨⟨aH,bv,bY⟩,hx⟩ aZ j bt _ ⟨G,E⟩ ⟨pb,rfl,ay⟩ hlt;obtain⟨-,aT,ae,O,-,-⟩:=am.o;have bZ:=za (show j.heap[pb]?=_ from ay) 1;have b1:=(E.block aO (zd ae) aT).trans ae;have b3:=za b1 0;simp at bZ b3;rw[aD.o.2]at b3;have an:=Y2 E G;cases bY with
  |false=>
   have X:dmI ((A++[(⟨(aH,bv,false),hx⟩:ItM ak 0)]).map (·.1))=dmI (A.map (·.1)):=by rw[qzg,qI];simp[dmI]
   have aI:=qqh X;clear X O ae b1 b3 ay E G
   gi_wp2
   refine⟨fun _ h=>jS,?_⟩
   gi_wp2
   exact⟨KeepsFrom.refl _ _,uur _ _,by rw[aI.o];exact an.o.2,an.o.1⟩
  |true=>
   have X:dmI ((A++[(⟨(aH,bv,true),hx⟩:ItM ak 0)]).map (·.1))=dmI (A.map (·.1))++[aH]:=by rw[qzg,qI];simp[dmI]
   have aI:=qqh X;obtain⟨cp,cq,assign,body,hy,b4⟩:=Wp (m':=4-1-1-1) (O _ aH j G (by have:=zbe (A.map (·.1));rw[qzb]at this;omega));clear X O ae b1 ay E G
   gi_wp2
   refine RoundIn.mono (F:=Fence.wide.inRound bu) (n:=1) b4 ?_;rintro e H (⟨rfl,bx,az⟩|⟨rfl,bz,az⟩)
   .have a6:=Y2 bx (bs.o _ _ an.o.1 az);clear bx az b4
    gi_wp2
    exact⟨a6.o.2.2,a6.o.2.1,by rw[aI.o];exact a6.o.1,an.o.1.trans a6.o.2.1⟩
   .have a6:=Y2 bz (bs.o _ _ an.o.1 az);clear bz az b4
    gi_wp2
    exact⟨a6.o.2.2,rfl,by rw[aI.o];exact a6.o.1,an.o.1.trans a6.o.2.1⟩
 case done=>
  rintro aA aB j X c0 ⟨G,E⟩ D;have c3:dmI (aB.map (·.1))=dirtL a.ps:=by rw[show aB.map (·.1)=vis ak 0 from c0];exact am.o.1
  rw[c3]at G;have aJ:aL (dirtL a.ps) (j.putObj aA (.deferred none)):=am.o.2.2.2.2.2.putObj _ G (am.o.2.2.2.2.1 aA X) D rfl;refine⟨oe,.inl ⟨_,_,rfl,run_takeDeferred D,?_⟩⟩;exact⟨_,qYw rfl _ _ _,⟨_,rfl⟩,.inl ⟨_,rfl,aJ⟩⟩
 case stop=>
  rintro aA aY A j X bA ⟨rfl,bB,E⟩ D;have aJ:b5 (dmI (A.map (·.1))) (j.putObj aA (.deferred none)):=bV.o.putObj _ bB (am.o.2.2.2.2.1 aA X) D rfl;have bC:dmI (A.map (·.1))<+:dirtL a.ps:=by rw[<-am.o.1];exact VP bA
  have aj:=Y3 D aJ bC;clear D aJ bC bB E bA
  gi_wp2
  refine⟨oe,.inl ⟨_,_,rfl,run_takeDeferred aj.o.1,?_⟩⟩;exact⟨_,qYw rfl _ _ _,⟨_,rfl⟩,.inr ⟨_,aj.o.2.2,aj.o.2.1⟩⟩
end
section
section
variable{n:CaN}{a:CaS}
theorem zbg(F:List Bk)(L:List (Nat×Bk)):∀h,wrsR F L h []=⟨F,h++L,[],0⟩:=by
 induction L with
 |nil=>intro h;simp[wrsR]
 |cons x L j=>intro h;rw[wrsR,wS];dsimp only;rw[if_pos rfl,j];simp
theorem zbh(F:List Bk)(O L:List (Nat×Bk)):saveR F O [] L=⟨flushF F (O++L),[],[],0⟩:=by
 unfold saveR;rw[zbg,if_pos rfl,un]
theorem CaS.NoP.ckpt_eq(h:a.NoP):a.ckpt n=({a with bF:=flushF a.bF a.bO,bO:=[],bP:=[],dF:=flushF (flushF a.dF a.dO) (ckO (1+(1-a.which)*n.pa) n.pa (pagesB (a.next-1) (a.ents n))),dO:=[],dP:=[],which:=1-a.which,cov:=a.next-1,W:=[],st:=freeTo a.st (pos a.st 3)},0):=by
 obtain⟨h1,h2⟩:=h;have j:flushR a.bF a.bO a.bP=⟨flushF a.bF a.bO,[],[],0⟩:=by rw[h2];rfl
 have s:flushR a.fb.dF a.fb.dO a.fb.dP=⟨flushF a.dF a.dO,[],[],0⟩:=by show flushR a.dF a.dO a.dP=_;rw[h1];rfl
 have q:a.fb.fd.svR n=⟨flushF (flushF a.dF a.dO) (ckO (1+(1-a.which)*n.pa) n.pa (pagesB (a.next-1) (a.ents n))),[],[],0⟩:=by
  have:a.fb.fd.svR n=saveR (flushR a.dF a.dO a.dP).F (flushR a.dF a.dO a.dP).O (flushR a.dF a.dO a.dP).P (ckO (1+(1-a.which)*n.pa) n.pa (pagesB (a.next-1) (a.ents n))):=rfl;rw[this,h1];exact zbh _ _ _
 unfold CaS.ckpt;rw[if_neg (by rw[j];exact fun h=>h rfl),if_neg (by rw[s];exact fun h=>h rfl),if_neg (by rw[q];exact fun h=>h rfl)];refine Prod.ext ?_ rfl;show a.fb.fd.ckd n=_;unfold CaS.ckd;rw[q];show({a.fb.fd with dF:=_,dO:=_,dP:=_,which:=_,cov:=_,W:=_,st:=_}:CaS)=_;have A:a.fb.fd={a with bF:=flushF a.bF a.bO,bO:=[],bP:=[],dF:=flushF a.dF a.dO,dO:=[],dP:=[]}:=by
  unfold CaS.fd CaS.fb;rw[j];show({a with bF:=_,bO:=_,bP:=_,dF:=(flushR a.dF a.dO a.dP).F,dO:=(flushR a.dF a.dO a.dP).O,dP:=(flushR a.dF a.dO a.dP).P}:CaS)=_;rw[h1];rfl
 rw[A]
end
open Go Go.RowKit Go.Shelf Tryz
attribute [local go_sem] qYb
def boxesN(M:Nat)(pre:List Nat)(W:World):Prop:=∃v,Boxed W M 77 v/\W.ownsRow M 3 1 v pre.length (ints (pre.map Int.ofNat))
theorem VQ(M:Nat):Own (boxesN M):=by
 rintro s A D E ⟨v,h1,q⟩ h j;exact⟨v,Vq h1 h j,SD q h j⟩
theorem VR{W w1:World}{v v':Value}{xs:List Value}{h:Obj}(q:W.ownsRow lb 3 1 v k xs)(s:(W.alloc h).grownBy w1 v.ownBlock):AF lb M1 W (w1.setCell ⟨lb,0,none⟩ v'):=by
 have A:Upd (fun _=>False) W (W.alloc h):=(uur _ W).alloc _;have D:Upd (fun j=>v.ownBlock=some j) (W.alloc h) w1:=Upd.kj s (fun g e _=>e);have E:=zi w1 lb 0 v';refine((A.mono fE).trans (D.mono (S':=QZ lb M1 W) (fun j G e=>?_))).trans (E.mono (fun j _ e=> .inl e));obtain⟨-,⟨rfl,-⟩|⟨g,H,J,rfl,-,F,-⟩⟩:=q
 .cases e
 .cases e;exact .inr (.inr ⟨_,_,F⟩)
def zbi(w:World)(L:List Int)(e:Ending)(w':World):Prop:=∃v,e=.returned v/\Sl w' 3 1 v L.length (ints L)/\From w.heap.size v/\Below w.heap.size w w'
section
variable{own:Nat->Nat}{w:World}{c:Nat}{n:CaN}{p:CaP}{a:CaS}
theorem Wq(h:CaAt own w c n p a):Calls prog 227 #[ptr c] w (zbi w ((dirtL a.ps).map Int.ofNat)):=by
 obtain⟨lb,s⟩:=qqe (w.heap.size);obtain⟨w1,D⟩:=qqe (w.alloc (.cells #[.slice none 0 0] 77));obtain⟨E,F⟩:=qqe (w1.alloc (.cells #[ptr c] 88));have V:=qqu D;have Q:=qqu F;have W:w1.heap.size=lb+1:=by rw[D,s];simp
 have ah:E.heap.size=lb+2:=by rw[F];simp;omega
 have X:Below lb w E:=by rw[s,F,D];exact((qxl _ w).alloc (qXp _) _).alloc oe _
 have h2:=(h.new V).new Q;have Y:E.heap[lb+1]?=some (.cells #[ptr c] 88 (0,0)):=by rw[F];exact zc w1 _ W.symm
 have Z:E.heap[lb]?=some (.cells #[.slice none 0 0] 77 (0,0)):=Q.jV (by rw[D,s];exact zc w _ rfl);have aG:(vis (spanL a.ps 0 n.bl) 0).length<=4096:=by
  have h1:=sY (spanL a.ps 0 n.bl) 0 (spanL a.ps 0 n.bl).length;have a6:=h.ok.b2;have aH:(spanL a.ps 0 n.bl).length<=n.bl:=by simp[spanL];omega
  exact qXr h1 oM
 have ai:=qqh (zdH h2 (lb+1) lb (E.heap.size+1) Y oM oM oM (4-1));have a7:=qqh (Eq (w:=w1) (c:=c) trivial);obtain⟨aj,ak,am,an,ao⟩:=qYu zai;have ap:boxesN lb [] E:=⟨_,Z,World.ownsRow_nil _ _ _ _⟩
 have A:=Y3 X ah s;have R:=Y2 D F;clear h V Q W X h2 Y Z D F;refine(callsIn_wide (n:=4)).1 ?_;refine callsIn_of_wp_marks func227 rfl trivial ?_ rfl;simp only[ntmps227,qXh,qyz,qzc,Nat.reduceAdd,Nat.reduceSub,qxi,qxj,qXb,qxx,qzu,qxy];refine wpIn_wide.2 ?_;go_wp2_with fail
 rw[<-R.o.1,<-s];refine a7.o.mono ?_;rintro e aq ⟨rfl,a8⟩;rw[<-R.o.2]at a8;subst a8;rw[show w1.heap.size=lb+1 from by rw[R.o.1,s];simp];clear a7 s;go_wp2_with fail
 refine(wpIn_wide (n:=4)).1 ?_
 refine' XJ (n:=4) (gf:=353) (lb:= #[.pointer (some ⟨lb+1,0,none⟩)]) rfl (enters_of func353 kR rfl)
  ai.o (fun h g=>h.trans g) (fun ar o aI _ _=>AF.put ar _) (qxl _ _) (fun _=>rfl)
  (fun M j=>boxesN lb M j/\Below lb w j)
  (fun _ _ _=>False)
  (OwnFrom.and (Own.from (VQ lb) _) (ownFrom_below (Nat.le_of_eq A.o.2.2) (by have:=A.o.2.1;omega)))
  (fun _ _ _ _ _ au _ _=>au)
  ⟨ap,A.o.1⟩
  (_:Nat->Act)
  ?assign ?body ?done ?stop
 case assign=>
  rintro av x j aJ G
  gi_wp2
  exact G
 case body=>
  rintro av M x j ⟨⟨v,H,q⟩,J⟩ hlt;have aw:lb<=j.heap.size:=by have h1:=J.size;have h2:=A.o.2.2;omega
  have aK:=H.cell
  gi_wp2_with (gi_at_builtin;refine wpListIn_append_own_at _ rfl _ _ 77 rfl lb 3 aj (.int .i64 0) 1 8 underlying77 ak am an ao rfl de _ _ _ rfl (q.alloc _) ⟨j.heap.size,0,none⟩ 1 1 [.int .i64 (x:Int)] rfl rfl (cell_one_new _ _ _) jf oh oM og ?_;intro aL aM aa ab _ aN;obtain⟨ax,ay,rfl⟩:=ownsRow_succ aa;obtain⟨ad,az,aA,aB,aC⟩:=H.appended de q aw (qXp _) aa ab;have aD:=VR (M1:=aq.heap.size+1) (v':=.slice (some ⟨ax,0,none⟩) (M.length+1) ay) q ab;have aO:=ad.cell;have aP:=ad.frozen)
  exact⟨aB.from _,aD,⟨_,az,by simpa[ints]using aA⟩,J.trans aC⟩
 case stop=>
  rintro K aQ M j _ _ h _;exact h.elim
 case done=>
  rintro K aR j aS rfl ⟨⟨v,H,q⟩,J⟩ G;have hsl:=Sl.of_own q;have S:=wP j K (.deferred none);have ae:Sl (j.putObj K (.deferred none)) 3 1 v (dirtL a.ps).length (ints ((dirtL a.ps).map Int.ofNat)):=hsl.keep S (fun g L e=>by
   obtain⟨-,⟨rfl,-⟩|⟨T,aE,aF,rfl,-,af,-⟩⟩:=q
   .cases L
   .cases L;replace e:T=K:=e;rw[e,G]at af;cases af)
  have ag:From w.heap.size v:=fun g L=>by
   obtain⟨-,⟨rfl,-⟩|⟨T,aE,aF,rfl,U,-,-⟩⟩:=q
   .cases L
   .cases L;have:=A.o.2.2;show w.heap.size<=T;omega
  have U:Below w.heap.size w (j.putObj K (.deferred none)):=by
   have h2:=A.o.2.1;have a6:=A.o.2.2;exact zj (a6▸J) S (qXp _) (fun k e=>oM)
  have dv:=H.cell;have O:=Y4 G ae ag U;clear hsl S ae ag U G q J H;go_wp2
  refine⟨oe,.inl ⟨_,_,rfl,run_takeDeferred O.o.1,?_⟩⟩;exact⟨_,results_tmp rfl _ _ _,⟨v,rfl,by rw[qzb];exact O.o.2.1,O.o.2.2.1,O.o.2.2.2⟩⟩
end
end
section
open Go Go.RowKit Go.Shelf Tryz
attribute [local go_sem] qYb
end
section
def rightP(hi lo ba sl:Int):Prop:=0<=lo/\lo<=hi/\hi<=sl/\1<=ba/\ba<=64
instance(hi lo ba sl:Int):Decidable (rightP hi lo ba sl):=by unfold rightP;exact inferInstance
def chkP(hi lo ba sl:Int):Int:=if rightP hi lo ba sl then 0 else 1
abbrev zdI(hi lo ba:Int):Value:=.agg #[.int .i64 hi,.int .i64 lo,.int .i64 ba]
theorem Wr(h j q sl:Int)(w:World):Calls prog 35 #[zdI h j q,.int .i64 sl] w fun e w'=>e=.returned (.int .i64 (chkP h j q sl))/\Below w.heap.size w w':=by
 obtain⟨w1,A⟩:=qqe (w.alloc (.cells #[.int .i64 h,.int .i64 j,.int .i64 q] 40));have D:=qqg A;have F:Below w.heap.size w w1:=by rw[A];exact(qxl _ w).alloc (qXp _) _
 have G:=za D 0;have H:=za D 1;have J:=za D 2;simp at G H J;have E:=Y2 A F;clear A D F;unfold chkP;by_cases s:rightP h j q sl
 .rw [if_pos s];obtain⟨K,L,M,O,P⟩:=s;go_enter func35,ntmps35
  go_upto_region 1 with fail
  rw[<-E.o.1];go_wp2
  go_ret
  exact⟨rfl,E.o.2⟩
 .rw [if_neg s];have Q:j<0\/h<j\/sl<h\/q<1\/64<q:=by unfold rightP at s;omega
  clear s;go_enter func35,ntmps35
  go_upto_region 1 with fail
  rw[<-E.o.1];go_wp2
  all_goals
   go_ret
   exact⟨rfl,E.o.2⟩
end
end Go.Proofs.YtbnpkobbnjihjaaGreatDoor
