/- A volume's Dis -/
import Derived.Test.YtbnpkobbnjihjaaGreatDoorG35
set_option maxRecDepth 100000
set_option maxHeartbeats 2000000
namespace Go.Proofs.YtbnpkobbnjihjaaGreatDoor
open Go Go.RowKit Tryz
variable{f:Int}{m k:Nat}
def CaS.goN(n:CaN)(f:Int)(a:CaS):Nat->CaS
 |0=>a
 |k+1=>((CaS.goN n f a k).gone n (f+k)).1
def zed(n:CaN)(f:Int)(m:Nat)(I:Nat->CaS->Prop):Prop:=∀k b,k<m->I k b->1<=b.next->(∃M,b.Tie n none/\b.Fit M/\M+n.pa+2<=50000)/\(b.gone n (f+(k:Int))).2=0/\I (k+1) (b.gone n (f+(k:Int))).1
section
variable{own0 own own':Nat->Nat}{w0 W W':World}{v:Nat}{q:VoP}{n:CaN}{p:CaP}{a a':CaS}{md:Int}{cl:Bool}
def zee(own0:Nat->Nat)(w0:World)(v:Nat)(q:VoP)(n:CaN)(p:CaP)(md:Int)(a:CaS)(f:Int)(I:Nat->CaS->Prop)(sb eb:Nat)(sv:Array Value)(k:Nat)(W:World):Prop:=
 ∃own,VoFr own0 w0 v q n p md own W (CaS.goN n f a k)/\Bo own W sb sv 50/\Bo own W eb sv 50/\I k (CaS.goN n f a k)
theorem zef{sb h:Nat}{j:Array Value}{I:Nat->CaS->Prop}(s:zee own0 w0 v q n p md a f I sb h j k W)(A:k<m)(D:zed n f m I):
  Calls prog 149 #[ptr q.c,.int .i64 (f+(k:Int))] W fun e W'=>e=.returned (.int .i64 0)/\zee own0 w0 v q n p md a f I sb h j (k+1) W':=by
 obtain⟨own,b,E,F,G⟩:=s;obtain⟨⟨P,H,J,K⟩,L,M⟩:=D k _ A G b.vo.ca.nx1;refine(VL b.vo.ca J K H (f+(k:Int))).mono ?_;rintro e W' ⟨rfl,own',O,d⟩;rw[L];exact⟨rfl,own',b.did O d,E.did d,F.did d,M⟩
theorem Up{I:Nat->CaS->Prop}(h:VolAt own W v q n p a md false)(K:inS n.bl f m)(A:zed n f m I)(D:I 0 a):
  Calls prog 79 #[ptr v,ut f m] W fun e W'=>vv own W v q n p (CaS.goN n f a m) md false (.int .i64 0) e W'/\I m (CaS.goN n f a m):=by
 have aj:=h.ca.ok.b2;have E:0<=f/\f+m<=4096:=by obtain⟨av,aw,ax,ay⟩:=K;omega
 obtain⟨sb,L⟩:=qqe (W.heap.size);obtain⟨w1,G⟩:=qqe (W.alloc (.cells #[.int .i64 f,.int .i64 (m:Int)] 50));have Y:=qqu G;have M:Bo own w1 sb #[.int .i64 f,.int .i64 (m:Int)] 50:=⟨by rw[G,L];exact zc W _ rfl,h.ca.far _ oM⟩
 have b:VoFr own W v q n p md own w1 a:=(VoFr.start h).new Y;have Z:=zf M.1;have a6:=qqh (zZ b.vo);have a7:=qqh (YC b.vo K);have a8:=underlying50;have aa:=zV;have az:=qqf;have ak:=Y5 b M E A D;have ab:=Y2 G L;clear h K aj E L G Y M b A D;go_enter func79,ntmps79
 go_upto_region 1 with fail
 rw[<-ab.o.1,<-ab.o.2];go_wp2_with fail
 refine a6.o.mono ?_;rintro e aA ⟨rfl,ad⟩;rw[ad];clear ad;go_wp2_with (first
  |(refine qZa rfl _ _ rfl _ _ rfl _ _ Z a8 rfl aa ?_)
  |fail)
 refine a7.o.mono ?_;rintro e j ⟨rfl,H⟩;obtain⟨b,O,E,A,D⟩:=ak.o;have Q:Upd (fun _=>False) w1 j.drew:=(uuo H).trans (uur _ j).drew;have R:=b.new Q;have ae:=O.keep Q id;have T:Upd (fun _=>False) j.drew (j.drew.alloc (.cells #[.int .i64 f,.int .i64 (m:Int)] 50)):=(uur _ j.drew).alloc _;have am:j.rangeAt sb 0 [.int .i64 f,.int .i64 (m:Int)]:=zf (O.keep (uuo (S:=fun _=>False) H) id).1;have af:=za (b.new (uuo H)).vo.g 0;simp[tj]at af;have an:=qqh (YD (g:=v) (N:=m) 149 #[ptr q.c] #[] (fun k U=>zee own W v q n p md a f I j.drew.heap.size sb #[.int .i64 f,.int .i64 (m:Int)] k U) E (w:=j.drew) (enters_of func149 kR rfl)
  (fun k U ⟨own',_,ao,_⟩=>ao.cell 0)
  (fun k ap U aq=>zef aq ap A) ⟨own,R.new T,⟨zc _ _ rfl,R.vo.ca.far _ (qXp _)⟩,ae.keep T id,D⟩)
 clear H b O E A D Q R ae T Z a6 a7;go_upto_region 7 with fail
 refine qZd (S:=fun W=>W.cell? ⟨v,0,none⟩=some (ptr q.c)/\W.rangeAt sb 0 [.int .i64 f,.int .i64 (m:Int)]) kR (⟨by rw[qYi];exact af,by rw[qYk];exact am⟩) (fun J=>?_);refine Wl.i [0] (Wl.t J (Wl.o ?_));refine Wl.l 1 (fun w h=>h.2) a8 aa J ?_;refine Wl.i [2,3,4,5] ?_;iterate 4 refine Wl.t J ?_
 refine Wl.o ?_;refine Wl.r 6 (fun F s=>?_);go_simp
 refine s.o _ _ (J) (fun aB=>?_);clear s F;refine Wl.r 7 (fun F s=>?_);go_simp
 refine an.o.mono ?_;rintro e aC ⟨rfl,aD,V,-,ag,ah⟩;have ai:=za V.vo.g 0;simp[tj]at ai;have ar:=zf ag.1;have X:=Y2 V ah;clear V ag ah;refine s.o _ _ (⟨ai,ar⟩) (fun au=>?_);clear s F;refine Wl.r 8 (fun F s=>?_);go_simp
 refine s.o _ _ (au) (fun aE=>?_);clear s F;refine Wl.d ?_;go_wp2
 go_ret
 exact⟨⟨rfl,_,X.o.1.vo,X.o.1.d⟩,X.o.2⟩
theorem VolAt.turn{x:Value}{md':Int}{cl':Bool}(h:VolAt own W v q n p a md cl)(hx:(tj q md cl).toArray.setIfInBounds k x=(tj q md' cl').toArray):VolAt own (W.setCell ⟨v,k,none⟩ x) v q n p a md' cl':=by
 have b:=zi W v k x;have j:W.cell? ⟨v,0,none⟩=some (ptr q.c):=za h.g 0;have D:v≠1:=fun e=>by
  have h1:=h.ca.nib.c 0 de;have h2:=j;rw[e,h1]at h2;cases h2
 have E:v≠0:=fun e=>by
  have h1:=h.ca.tur.c0;have h2:=j;rw[e,h1]at h2;cases h2
 refine⟨h.ca.kf b (fun G F=>by rw[F];exact⟨h.o1,D,E⟩),by rw[zh h.g k x,hx],h.lk.keep b (fun e=>?_) (fun e=>?_),h.o1,h.o2,h.o3⟩
 .replace e:q.lb=v:=e;have s:=h.lk.1;rw[e,h.g]at s;cases s
 .replace e:q.mb=v:=e;obtain⟨H,⟨J,K,A,-⟩,-⟩:=h.lk.2;rw[e,h.g]at A;cases A
theorem zbQ{fr:Int}(b:VolAt own W v q n p a md false)(s:fr=0\/fr=1\/fr=2):
  Calls prog 85 #[ptr v,.int .i64 fr] W (VoR own W v q n p a fr false (.int .i64 0)):=by
 have A:=qqh (zZ b);have c:=za b.g 8;have f:=zg b.g 8;simp[tj]at c;have h:=Y2 (VolAt.turn (k:=8) (x:=.int .i64 fr) (md':=fr) (cl':=false) b rfl) b.ca.far;clear b;go_enter func85,ntmps85
 rcases s with rfl|rfl|rfl
 all_goals
  go_wp2_with fail
  refine A.o.mono ?_;rintro e D ⟨rfl,j⟩;rw[j];clear j;go_wp2
  go_ret
  exact⟨rfl,own,h.o.1,DidR.at ((zi _ _ _ _).mono (fun _ _ b=> .inl b)) h.o.2⟩
theorem WM(b:VolAt own W v q n p a md cl):Calls prog 157 #[ptr v] W fun e W'=>e=.returned (.pointer none)/\W'=W:=by
 have c:=za b.g 9;simp[tj]at c;clear b;go_enter func157,ntmps157
 go_wp2
 go_step3
 go_wp2
 go_step3
 go_wp2
 go_loopg[3,11] 0 (fun gk x i wr=>x=.pointer none/\i=.int .i64 0/\wr=W)
 case atStart=>exact⟨rfl,rfl,rfl⟩
 case round=>
  obtain⟨rfl,rfl,h⟩:=hrel;subst h;go_wp2
  try rw[qxq]
  go_ret
  exact⟨rfl,rfl⟩
end
structure Inv0(n:CaN)(a:CaS)(N:Nat):Prop where
 fit:a.Fit N
 tie:a.Tie n none
 nop:a.NoP
def CaN.B0(n:CaN):Nat:=3*n.pa+n.jo+6
instance(bl:Nat)(f m:Int):Decidable (inS bl f m):=inferInstanceAs (Decidable (_/\_/\_/\_))
section
variable{n:CaN}{a:CaS}{N:Nat}
theorem CaS.NoP.j6(h:a.NoP)(k:Nat)(x:Bk):(a.j6 n k x).2=0/\(a.j6 n k x).1.NoP:=by
 have b:=(a.same_roomed n).noP h;have h2:(writeR (a.jX n).1.bF (a.jX n).1.bO (a.jX n).1.bP k x).cd=0:=by rw[b.2,wS]
 have j:((a.jX n).1.ki (writeR (a.jX n).1.bF (a.jX n).1.bO (a.jX n).1.bP k x)).NoP:=by rw[b.2,wS];exact⟨b.1,rfl⟩
 unfold CaS.j6;rw[if_neg (fun e=>e h.jX),if_neg (fun e=>e h2)];refine⟨rfl,?_⟩;unfold CaS.byp;split
 .exact j
 .exact j
theorem CaS.NoP.j7(b:a.NoP)(s:Nat)(h:Int)(x:Bk):(a.j7 n s h x).2=0/\(a.j7 n s h x).1.NoP:=by
 unfold CaS.j7;rw[b.1,wS,if_pos rfl];exact⟨rfl,rfl,b.2⟩
theorem CaS.NoP.kq(h:a.NoP)(j:a.Tie n none)(h1:1<=a.next)(s:4<=n.jo)(k:Nat)(x:Bk):(a.kq n k x).2=0/\(a.kq n k x).1.NoP:=by
 have b:=CaS.NoP.j4 oM h j;unfold CaS.kq;rw[if_neg (fun e=>e b.1)];rcases CaS.Tie.j4 j h1 s with⟨h2,H,-,A,D,E⟩|⟨h2,E⟩
 .rw [if_neg (by rw[h2];decide),D,qxs];obtain⟨F,G⟩:=b.2.j7 (n:=n) A (k:Int) x;unfold CaS.backS;rw[if_neg (fun e=>e F)];exact⟨rfl,CaS.NoP.kh G _ _ _ _⟩
 .rw [if_pos h2];exact b.2.j6 k x
theorem Inv0.ku(b:Inv0 n a N)(j:a.Jg n)(h1:1<=a.next)(h:4<=n.jo){k:Int}(s:0<=k/\k<(n.bl:Int))(x:Bk):(a.ku n k x 0).2=0/\Inv0 n (a.ku n k x 0).1 (N+n.B0):=by
 have h2:=b.nop.kq b.tie h1 h k.toNat x;have A:=b.fit.kq j h1 h k.toNat x;have D:=b.tie.kq h1 h (show k.toNat<n.bl by omega) x;rw[JZ s];exact⟨h2.1,by rw[show N+n.B0=N+3*n.pa+n.jo+6 by unfold CaN.B0;omega];exact A,D,h2.2⟩
theorem Inv0.gone(h:Inv0 n a N)(h1:1<=a.next){k:Int}(s:0<=k/\k<(n.bl:Int)):(a.gone n k).2=0/\Inv0 n (a.gone n k).1 (N+n.B0):=by
 have h2:=h.nop.j6 (n:=n) k.toNat zB;have b:=(h.fit.gone h1 (n:=n) k).mono (show N+n.pa+2<=N+n.B0 by unfold CaN.B0;omega);have j:=h.tie.gone k;unfold CaS.gone at*;rw[if_neg oM]at*;exact⟨h2.1,b,j,h2.2⟩
theorem Inv0.jZ(h:Inv0 n a N)(b:a.Jg n)(j:4<=n.jo):(a.jZ n).2=0/\Inv0 n (a.jZ n).1 (N+n.jo):=
 ⟨h.nop.jZ.1,h.fit.jZ b.len,h.tie.jZ,(a.same_committed n oM).noP h.nop⟩
theorem YL(b:inS n.bl f m)(h:k<m):0<=f+(k:Int)/\f+(k:Int)<(n.bl:Int):=by
 obtain⟨j,s,A,D⟩:=b;omega
theorem zgc(s:4<=n.jo){xs:List Bk}(A:inS n.bl f xs.length)(G:N+xs.length*n.B0<=50000):zbv n 0 f xs (fun k h=>Inv0 n h (N+k*n.B0)):=fun k h j b D h1=>by
 have H:(k+1)*n.B0<=xs.length*n.B0:=qXv _ j;have E:(k+1)*n.B0=k*n.B0+n.B0:=Nat.succ_mul _ _;obtain⟨h2,F⟩:=b.ku D h1 s (YL A j) (xs.getD k zB);exact⟨⟨_,b.tie,b.fit,by have J:n.B0=3*n.pa+n.jo+6:=rfl;omega⟩,h2,by show Inv0 n _ (N+(k+1)*n.B0);rw[E,<-qXl];exact F⟩
theorem zgd(s:inS n.bl f m)(E:N+m*n.B0<=50000):zed n f m (fun k h=>Inv0 n h (N+k*n.B0)):=fun k h j b h1=>by
 have F:(k+1)*n.B0<=m*n.B0:=qXv _ j;have A:(k+1)*n.B0=k*n.B0+n.B0:=Nat.succ_mul _ _;obtain⟨h2,D⟩:=b.gone h1 (YL s j);exact⟨⟨_,b.tie,b.fit,by have G:n.B0=3*n.pa+n.jo+6:=rfl;omega⟩,h2,by show Inv0 n _ (N+(k+1)*n.B0);rw[A,<-qXl];exact D⟩
theorem CaS.NoP.j9(b:a.NoP){k:Int}(h:getC a.ps k=14):(a.j9 n k).2.2=0/\(a.j9 n k).1=a:=by
 unfold CaS.j9;rw[if_pos h];obtain⟨h1,h2⟩:=b;refine⟨?_,?_⟩
 .show (if fate a.bP=1 then(19:Int)else 0)=0;rw[h2];rfl
 .show {a with bP:=a.bP.tail}=a;cases a;simp only at h2;subst h2;rfl
end
section
variable{own:Nat->Nat}{w W:World}{c v:Nat}{q:VoP}{n:CaN}{p:CaP}{a a':CaS}{md:Int}
theorem Ai(h:CaAt own w c n p a)(hsl:2<=n.sl)(Y:dirtL a.ps=[]):
  Calls prog 156 #[ptr c,zdI 1 0 2] w (zx own w c n p a (.tuple #[.int .i64 0,.int .i64 0])):=by
 obtain⟨w1,H⟩:=qqe (w.alloc (.cells #[.int .i64 1,.int .i64 0,.int .i64 2] 40));have J:=qqg H;have Q:=qqu H;have K:=(uur (fun _=>False) w1).drew;have R:=(h.new Q).new K;have Z:=h.j3 (Q.trans K);have L:=zf J;obtain⟨m,T⟩:=qqe (w.heap.size);rw[<-T]at J L;have a6:=underlying40;have a7:(prog.info? 40).map (·.size)=some 3:=kR;have an:=tf (n.id:Int) (n.bl:Int) (n.sl:Int) (n.jo:Int) (n.pa:Int) (n.lo:Int) (n.ba:Int);have a8:=qqh (show Calls prog 36 #[ptr c] w1.drew fun e ao=>e=.returned (.agg #[.int .i64 n.id,.int .i64 n.bl,.int .i64 n.sl,.int .i64 n.jo,.int .i64 n.pa,.int .i64 n.lo,.int .i64 n.ba])/\Below w1.drew.heap.size w1.drew ao from xH R);have j:=Y4 R Z (K.jV J) Y;have ap:=qqh (show chkP 1 0 2 n.sl=0 from if_pos ⟨de,de,oM,de,de⟩);have aa:=Y2 H T;clear h hsl Y H Q K R Z J T;go_enter func156,ntmps156
 go_upto_region 3 with fail
 rw[<-aa.o.1,<-aa.o.2];refine qZd (S:=fun aq=>aq.rangeAt m 0 [.int .i64 1,.int .i64 0,.int .i64 2]) kR (by(simp only[qYk]);exact L) (fun U=>?_);refine Wl.l 0 (fun w h=>h) a6 a7 U ?_;refine Wl.i [1] (Wl.t U (Wl.o ?_));refine Wl.r 2 (fun s b=>?_);go_simp
 refine a8.o.mono ?_;rintro e ab ⟨rfl,ad⟩;have A:Upd (fun _=>False) w1.drew ab:=uuo ad;have V:=A.range (show w1.drew.rangeAt m 0 _ by rw[qYk];exact L) id;have D:=Wr 1 0 2 (n.sl:Int) ab;rw[ap.o]at D;have D:=qqh D;have M:=Y3 (j.o.1.new A) (j.o.2.1.trans (j.o.1.j3 A)) (A.jV j.o.2.2.1);clear ad A;refine b.o _ _ (V) (fun ae=>?_);clear b s;refine Wl.i [3] (Wl.t ae (Wl.o ?_));refine Wl.r 4 (fun s b=>?_);go_simp
 refine D.o.mono ?_;rintro e av ⟨rfl,af⟩;have E:=qqb af;have ag:=E.range V id;have F:=Y3 (M.o.1.new E) (M.o.2.1.trans (M.o.1.j3 E)) (E.jV M.o.2.2);clear af E;refine b.o _ _ (ag) (fun ah=>?_);clear b s;refine Wl.r 5 (fun s b=>?_);go_simp
 refine b.o _ _ (ah) (fun ar=>?_);clear b s;refine Wl.d ?_;clear U ae ah ar L V ag a8 D an a6 a7;have G:=Wq F.o.1;rw[j.o.2.2.2,qzj]at G;have G:=qqh G;go_wp2_with fail
 refine G.out.mono ?_;rintro e aw ⟨v,rfl,X,-,ai⟩;have O:=qqb ai;have aj:=F.o.1.new O;have ak:=O.jV F.o.2.2;have au:=za ak 0;simp at au;rw[qzc]at X;obtain⟨ax,ay,rfl⟩:=X.rd.jW;have am:=Y2 aj (F.o.2.1.trans (F.o.1.j3 O));clear X ai O aj ak G;go_wp2
 go_ret2
 exact⟨rfl,own,am.o.1,am.o.2⟩
theorem Ry(D:CaAt own w c n p a)(E:dirtL a.ps=[])(F:∀x∈a.W,1<=x.1)(G:a.dO.length+a.W.length<=65536)(H:(a.jZ n).2=0):
  Calls prog 161 #[ptr c] w (zx own w c n p (a.jZ n).1 (.int .i64 0)):=by
 have b:=Y5 D E F G H;clear D E F G H;go_enter func161,ntmps161
 go_wp2_with fail
 go_loopg[] 0 (fun g wr=>g=0/\wr=w)
 case atStart=>exact⟨rfl,rfl⟩
 case round=>
  obtain⟨-,O⟩:=hrel;subst O;have h:=Wq b.o.1;rw[b.o.2.1,qzj]at h;have h:=qqh h;go_wp2_with fail
  refine h.o.mono ?_;rintro e R ⟨S,rfl,s,-,A⟩;rw[qzc]at s;have h2:=b.o.1.new (uuo A);have J:=b.o.1.j3 (uuo A);obtain⟨T,U,rfl⟩:=s.rd.jW;have j:=wM h2 b.o.2.2.1 b.o.2.2.2.1;rw[b.o.2.2.2.2]at j;have j:=qqh j;have P:=qqh J;clear s A h h2 J;go_wp2_with fail
  refine j.o.mono ?_;rintro e V ⟨rfl,Q,K,L⟩;have M:=Y2 K (P.o.trans L);clear K L j;go_wp2
  go_ret
  exact⟨rfl,Q,M.o.1,M.o.2⟩
theorem Aj{R:Int}(h:VolAt own W v q n p a md false)(K:∀H,Upd (fun _=>False) W H->Calls prog 156 #[ptr q.c,zdI 1 0 2] H (zx own H q.c n p a' (.tuple #[.int .i64 R,.int .i64 0]))):
  Calls prog 83 #[ptr v] W (vv own W v q n p a' md false (.int .i64 0)):=by
 have L:=qqh (zZ h);have M:=za h.g 0;simp[tj]at M;have Y:W.rangeAt v 5 polC:=fun b u A=>(qXy (5+b))▸(zf h.g) (5+b) u (by
  have D:=(qyl.1 A).1;replace D:b<3:=D;rcases(show b=0\/b=1\/b=2 by omega)with rfl|rfl|rfl<;>exact A)
 have s:=(uur (fun _=>False) W).drew;have Z:=qqh (K _ s);have a6:=Y2 h s;have a7:=underlying40;have a8:=tm;clear h K s;go_enter func83,ntmps83
 go_wp2_with fail
 refine L.o.mono ?_;rintro e aa ⟨rfl,E⟩;rw[E];clear E L;go_upto_region 4 with fail
 refine qZd (S:=fun W=>W.cell? ⟨v,0,none⟩=some (ptr q.c)/\W.rangeAt v 5 polC) kR (⟨by rw[qYi];exact M,by rw[qYk];exact Y⟩) (fun O=>?_);refine Wl.i [0,1,2,3,4,5,6] ?_;iterate 7 refine Wl.t O ?_
 refine Wl.o ?_;refine Wl.l 7 (fun w h=>h.2) a7 a8 O ?_;refine Wl.r 8 (fun F j=>?_);go_simp
 refine Z.o.mono ?_;rintro e ab ⟨rfl,ag,D,Q⟩;obtain⟨h,s⟩:=a6.o;have J:=(h.ca.j3 s).trans Q;have G:=h.did D J;have T:=za G.g 0;simp[tj]at T;have ad:ab.rangeAt v 5 polC:=fun b u A=>(qXy (5+b))▸(zf G.g) (5+b) u (by have U:=(qyl.1 A).1;replace U:b<3:=U;rcases(show b=0\/b=1\/b=2 by omega)with rfl|rfl|rfl<;>exact A);have ae:=qqh (WM G);have V:=Y2 G J;clear h D Q G J s;refine j.o _ _ (⟨T,ad⟩) (fun X=>?_);clear j F;refine Wl.i [9,10,11] ?_;iterate 3 refine Wl.t X ?_
 refine Wl.o ?_;refine Wl.r 12 (fun F j=>?_);go_simp
 refine j.o _ _ (X) (fun af=>?_);clear j F;refine Wl.r 13 (fun F j=>?_);go_simp
 refine j.o _ _ (af) (fun ah=>?_);clear j F;refine Wl.d ?_;go_wp2_with fail
 refine ae.o.mono ?_;rintro e aa ⟨rfl,E⟩;rw[E];clear E;go_wp2
 go_ret
 exact⟨rfl,_,V.o.1,V.o.2⟩
theorem Uq{N:Nat}(b:VolAt own W v q n p a md false)(H:Calls prog 161 #[ptr q.c] W (zx own W q.c n p a' (.int .i64 0)))(h:a'.Fit N)(D:N<=40000)(J:(a'.ckpt n).2=0):
  Calls prog 86 #[ptr v] W (VoR own W v q n p (a'.ckpt n).1 md true (.int .i64 0)):=by
 have K:=qqh (zZ b);have L:=qqh (WM b);have M:=za b.g 0;simp[tj]at M;have O:=qqh H;have U:=Y4 b h D J;clear b H h D J;go_enter func86,ntmps86
 go_wp2_with fail
 refine K.o.mono ?_;rintro e V ⟨rfl,j⟩;rw[j];clear j K;go_wp2_with fail
 refine L.o.mono ?_;rintro e V ⟨rfl,j⟩;rw[j];clear j L;go_wp2_with fail
 refine O.o.mono ?_;rintro e Z ⟨rfl,a6,h2,F⟩;obtain⟨b,h,D,P⟩:=U.o;have E:=b.did h2 F;have c2:=za E.g 0;simp[tj]at c2;have s:=Yk E.ca h.sm (by have:=h.dO;omega);rw[P]at s;have s:=qqh s;have Q:=Y2 E F;clear b h D h2 F E P M O;go_wp2_with fail
 refine s.o.mono ?_;rintro e X ⟨rfl,R,S,G⟩;have A:=Q.o.1.did S G;have Y:=za A.g 10;have a7:=zg A.g 10;simp[tj]at Y;have T:=Y2 (A.turn (k:=10) (x:=.bool true) (md':=md) (cl':=true) rfl) (show DidR v v own R W (X.setCell ⟨v,10,none⟩ (.bool true))from(Q.o.2.trans G).toR.trans (DidR.at ((zi _ _ _ _).mono (fun _ _ b=> .inl b)) A.ca.far) (.inl rfl));clear S G A c2 s;go_wp2
 go_ret
 exact⟨rfl,R,T.o.1,T.o.2⟩
end
end Go.Proofs.YtbnpkobbnjihjaaGreatDoor
