/- A cache: put. -/
import Derived.Test.YtbnpkobbnjihjaaGreatDoorG14
import Derived.Test.YtbnpkobbnjihjaaGreatDoorG16
import Derived.Test.YtbnpkobbnjihjaaGreatDoorG15
import Derived.Test.YtbnpkobbnjihjaaGreatDoorG13
set_option maxRecDepth 100000
set_option maxHeartbeats 2000000
namespace Go.Proofs.YtbnpkobbnjihjaaGreatDoor
open Go Go.RowKit Tryz
variable{w:World}
theorem run_eql_place(w:World)(a c:Int)(b d:Bool):(binOp .eql 231 (.agg #[.int .i64 a,.bool b]) (.agg #[.int .i64 c,.bool d])).run prog w=.ok (.bool (a==c&&b==d)) w:=by
 simp only[binOp];simp[show Op.equal 231 (.agg #[.int .i64 a,.bool b]) (.agg #[.int .i64 c,.bool d])=Op.equalIn (9998+1+1) 231 (.agg #[.int .i64 a,.bool b]) (.agg #[.int .i64 c,.bool d])from rfl,vh w 9998 a c b d]
def CaS.given(n:CaN)(a:CaS)(k:Int)(s sum:Nat)(d:Bool):CaS:={a.noted n 0 k s d sum with iN:=a.iN+1,ps:=ui a.ps n.sl k s d,st:=turnList a.st s 2,mN:=a.mN+1,sums:=xT a.sums k (some sum)}
def CaS.kh(n:CaN)(a:CaS)(k:Int)(s sum:Nat)(d:Bool):CaS×Int:=
 if(uH a.ps n.sl k s).1= -1/\(uH a.ps n.sl k s).2=false then({a.given n k s sum d with kN:=a.kN+1,K:=sD n.sl a.K k,A:=Qd n.sl a.K a.A a.H k,H:=Qe n.sl a.K a.H k},addC n.sl a.K k)
 else({a.given n k s sum d with st:=turnList (turnList a.st s 2) (uH a.ps n.sl k s).1 3,kN:=a.kN+1,A:=agA a.A a.K k},touchC a.K k)
theorem zaT{own:Nat->Nat}{c:Nat}{n:CaN}{p:CaP}{a:CaS}(h:CaAt own w c n p a)(k:Int)(s b:Nat)(d:Bool)(ai:a.next<=a.cov+n.jo)(aj:a.next<=1099511627776)(ak:mayR (jaddX a.next n.jo 0 k s d b)=true)
  (G:putC a.ps n.sl k s=0) (am:a.iN<maxLen) (an:b<9223372036854775808) (ao:a.mN<maxLen) (N:a.kN<maxLen):
  Calls prog 346 #[ptr c,.int .i64 k,.int .i64 (s:Int),.int .i64 (b:Int),.bool d] w (zx own w c n p (a.kh n k s b d).1 (.int .i64 (a.kh n k s b d).2)):=by
 obtain⟨w1,O⟩:=qqe (w.alloc (.cells (recC 0 0 0 k s d b).toArray 273));have U:=qqu O;have V:=qqg O;obtain⟨m,W⟩:=qqe (w.heap.size);have ap:own m=0:=h.far _ oM;rw[<-W]at V;have h1:=h.new U;obtain⟨-,-,-,aq,-,-,-,-,-⟩:=h1.cells;have X:=zf V;have Y:=((uur (fun _=>False) w1).drew)
 have ar:=qqh (Tf (h1.new Y) ai aj 0 0 0 k s d b ak);have A:=Y6 ap ((h.j3 U).trans (h1.j3 Y)) G am an ao;have aS:=qqh W;have aT:=qqh O;have au:0<=k/\k<4096:=by
  have b5:=h.pl;have b6:=h.ok.b2;unfold putC at G;split at G
  .cases G
  .omega
 have Z:=qqh au;replace N:=qqh N;have av:=underlying273;have aw:=infoThR;clear au h ai aj ak G am an ao U V h1 ap W O Y;go_enter func346,ntmps346
 go_upto_region 2 with fail
 rw[<-aS.o,show w.alloc (.cells #[.int .i64 0,.int .i64 0,.int .i64 0,.int .i64 k,.int .i64 (s:Int),.bool d,.int .i64 (b:Int)] 273)=w1 from aT.o.symm];refine qZd (S:=fun D=>D.cell? ⟨c,17,none⟩=some (ptr p.jr)/\D.rangeAt m 0 (recC 0 0 0 k s d b)) kR (by(simp only[qYi,qYk]);exact⟨aq,X⟩) (fun a6=>?_);refine Wl.i [0,1,2,3] ?_;iterate 4 refine Wl.t a6 ?_
 refine Wl.o ?_;refine Wl.l 4 (fun w h=>h.2) av aw a6 ?_;refine Wl.r 5 (fun H q=>?_);go_simp
 skip
 refine ar.o.mono ?_;rintro e b7 ⟨rfl,b8,h2,a7⟩;obtain⟨-,-,-,ax,aU,-,-,-,-⟩:=h2.cells;have ay:=a7.upd.range (show w1.drew.rangeAt m 0 (recC 0 0 0 k s d b) by rw[qYk];exact X) (fun h=>h.1 A.o.1);have az:=qqh (Jj h2 k s d A.o.2.2.2.1);have aV:=qqh (A.o.2.1.trans a7);clear h2 a7;refine q.o _ _ (⟨ax,ay⟩) (fun a8=>?_);clear q H;refine Wl.i [6,7,8] ?_;iterate 3 refine Wl.t a8 ?_
 refine Wl.o ?_;refine Wl.r 9 (fun H q=>?_);go_simp
 refine q.o _ _ (a8) (fun aA=>?_);clear q H;refine Wl.r 10 (fun H q=>?_);go_simp
 refine q.o _ _ (aA) (fun aW=>?_);clear q H;refine Wl.d ?_;have aX:=A.o.2.2.1;clear a6 a8 aA aW ax X ay aq ar av aw;go_wp2_with fail
 refine az.o.mono ?_;rw[aX];rintro e Q ⟨rfl,b9,R,aB⟩;obtain⟨ps,aC⟩:=qqe (uH a.ps n.sl k s);rw[<-aC];obtain⟨os,J⟩:=ps;have aa:Upd (fun _=>False) Q (Q.alloc (.cells #[.int .i64 os,.bool J] 231)):=(uur _ _).alloc _;have ab:=R.new aa;have aD:=qqh (xu ab s 2);obtain⟨-,-,-,-,-,aY,-,-,-⟩:=ab.cells;have aE:=Y2 ((aV.o.trans aB).trans (R.j3 aa)) (R.far _ (qXp _));clear R aB aa ab az aU;go_wp2_with fail
 refine aD.o.mono ?_;rintro e ba ⟨rfl,bb,ad,ae⟩;obtain⟨E,aF,aG,af,ag⟩:=XN ad (x:=k) (by have:=Z.o;omega) (by have:=Z.o;omega) b A.o.2.2.2.2.1 A.o.2.2.2.2.2;obtain⟨-,-,-,-,-,-,-,-,aH⟩:=ad.cells;obtain⟨-,-,-,-,-,aI,-,aJ,-⟩:=af.cells;have K:=(ae.trans ag).upd.range (zf (zc Q (.cells #[.int .i64 os,.bool J] 231) rfl)) (fun h=>h.1 aE.o.2);have v:=Y2 af (aE.o.1.trans (ae.trans ag));clear ad ae af ag aD aY;replace v:Hid (CaAt aF E c n p (a.given n k s b d)/\Did own aF w E):=v;have j:a.kh n k s b d=a.kh n k s b d:=rfl
 conv at j=>rhs;unfold CaS.kh
 rw[<-aC]at j;simp only at j;by_cases L:os= -1/\J=false
 .rw [if_pos L]at j;have ah:=qqh j;clear j;obtain⟨rfl,rfl⟩:=L;have aK:=qqh (Tg v.o.1 k (by have:=Z.o;unfold InR;omega) N.out);go_wp2_with (first
   |(refine qZa rfl _ _ rfl _ _ rfl _ _ K underlying231 rfl kR ?_)
   |fail)
  refine aK.o.mono ?_;rintro e aZ ⟨rfl,aL,F,M⟩;have T:=Y2 F (v.o.2.trans M);clear F M aK aI aJ aH aG K;go_wp2
  go_ret
  rw[ah.o];exact⟨rfl,aL,T.o.1,T.o.2⟩
 .rw [if_neg L]at j;have ah:=qqh j;clear j;have aM:(os== -1&&J==false)=false:=by
   rw[Bool.and_eq_false_iff];by_cases h1:os= -1
   .right;simpa using fun h2=>L ⟨h1,h2⟩
   .left;simpa using h1
  have b0:∀D:World,(binOp .eql 231 (.agg #[.int .i64 os,.bool J]) (.agg #[.int .i64 (-1),.bool false])).run prog D=.ok (.bool false) D:=by
   intro D;rw[run_eql_place,aM]
  have b1:E.cell? ⟨Q.heap.size,0,none⟩=some (.int .i64 os):=K 0 _ rfl;clear aM L;go_wp2_with (first
   |(refine qZa rfl _ _ rfl _ _ rfl _ _ K underlying231 rfl kR ?_)
   |fail)
  clear K b0 aG aH;have aN:=qqh (xu (v.o.1.new ((uur (fun _=>False) E).drew)) os 3);replace v:=qqh v.o.2.drew
  go_still_tail 6,kR
  change wpList _ _ _ _ _ E.drew
  generalize E.drew=bc at*;go_wp2_with fail
  refine aN.o.mono ?_;rintro e aZ ⟨rfl,aL,F,M⟩;obtain⟨-,-,-,-,-,-,-,b3,-⟩:=F.cells;have aO:=qqh (QB F k N.out);have T:=qqh (v.o.trans M);clear F M aN aI aJ b1;go_wp2_with fail
  refine aO.o.mono ?_;rintro e bd ⟨rfl,b4,aP,aQ⟩;have aR:=Y2 aP (T.o.trans aQ);clear aP aQ aO b3;go_wp2
  go_ret
  rw[ah.o];exact⟨rfl,b4,aR.o.1,aR.o.2⟩
def CaN.s0(n:CaN):Nat:=1+2*n.pa+n.jo+n.lo+n.lo+n.lo
theorem CaN.s0_size(n:CaN):n.size=n.s0+n.sl:=rfl
def CaN.I(n:CaN):List Int:=[n.id,n.bl,n.sl,n.jo,n.pa,n.lo,n.ba]
def CaN.sec(n:CaN):Bk:=sectS n.I
theorem CaN.sec_len(n:CaN):n.sec.length=64:=tJ rfl
theorem CaN.may{n:CaN}(b:n.Ok)(h:n.id<=1099511627776):mayS n.I=true:=by
 obtain⟨j,k,p,q,s,v,A,D,a1,a2,E,F,z⟩:=b;unfold mayS withinB bndS CaN.I;simp only[List.zip_cons_cons,List.zip_nil_right,List.all_cons,List.all_nil,inB,qxo,qYt,Bool.and_true];omega
def fmt1(F:List Bk)(O:List (Nat×Bk)):List Bk:=flushF F (O++[(0,zB)])
def We(n:CaN)(F:List Bk)(O:List (Nat×Bk)):List Bk:=flushF (fmt1 F O) (zW (n.s0-1)++ckO 1 n.pa (pagesB 0 []))
def fmtF(n:CaN)(F:List Bk)(O:List (Nat×Bk)):List Bk:=flushF (We n F O) [(0,n.sec)]
theorem uZ(F:List Bk)(O:List (Nat×Bk)):(fmt1 F O).length=F.length:=zM _ _
theorem rS(n:CaN)(F:List Bk)(O:List (Nat×Bk)):(We n F O).length=F.length:=(zM _ _).trans (uZ F O)
theorem JN(n:CaN)(F:List Bk)(O:List (Nat×Bk)):(fmtF n F O).length=F.length:=(zM _ _).trans (rS n F O)
def JO(S:Nat->Prop)(w:World)(b:Nat)(F:List Bk)(e:Ending)(w':World):Prop:=e=.returned (.int .i64 0)/\Dv S w' b F [] []/\Upd S w w'
def fmtK(n:CaN)(F:List Bk)(O:List (Nat×Bk)):Nat->List Bk×List (Nat×Bk)
 |0=>(F,O)
 |1=>(F,O++[(0,zB)])
 |2=>(fmt1 F O,[])
 |3=>(fmt1 F O,zW (n.s0-1))
 |4=>(We n F O,[])
 |5=>(We n F O,[(0,n.sec)])
 |_=>(fmtF n F O,[])
def fmtV(d q lb q0 b:Nat):Array Value:= #[.func (.func 27) #[] #[ptr d,ptr q0,ptr (q0+1)],.func (.func 33) #[ptr b] #[],.func (.func 29) #[] #[ptr lb,ptr d],
 .func (.func 30) #[] #[ptr d,ptr lb,ptr q],.func (.func 27) #[] #[ptr d,ptr (q0+2),ptr (q0+2+1)],.func (.func 33) #[ptr b] #[]]
theorem zaU{T:Nat->Prop}{b g d q lb q0:Nat}{n:CaN}{F:List Bk}{O:List (Nat×Bk)}(Q:n.Ok)(V:Dv T w b F O [])(W:∀s,w.heap.size<=s->T s)(X:Nib w)(R:¬T 1)(am:F.length=n.size)(an:O.length<=50000)
  (S:w.heap[g]?=some (.cells (fmtV d q lb q0 b) 83 (0,0)))
  (cd:w.cell? ⟨d,0,none⟩=some (ptr b)) (Y:w.cell? ⟨q,4,none⟩=some (.int .i64 (n.pa:Int))) (Z:w.cell? ⟨lb,0,none⟩=some (.int .i64 1)) (a6:w.cell? ⟨lb,5,none⟩=some (.int .i64 (n.s0:Int)))
  (a7:w.cell? ⟨q0,0,none⟩=some (.int .i64 0)) (a8:w.rangeAt (q0+1) 0 (bkC zB)) (c2:w.cell? ⟨q0+2,0,none⟩=some (.int .i64 0)) (aa:w.rangeAt (q0+2+1) 0 (bkC n.sec))
  (ab:¬T g/\¬T d/\¬T q/\¬T lb/\¬T q0/\¬T (q0+1)/\¬T (q0+2)/\¬T (q0+2+1)):
  Calls prog 32 #[.slice (some ⟨g,0,none⟩) 6 6] w (JO T w b (fmtF n F O)):=by
 obtain⟨ad,E,ae,G,t0,af,ag,t3⟩:=ab;have ao:=Q.z;have ap:=n.s0_size;have ah:1<=n.s0:=by unfold CaN.s0;omega
 have aq:1+n.pa+n.pa<=n.size:=by unfold CaN.size;omega
 have ai:1<=n.pa:=by have:=Q.p1;omega
 have aj:=zff (g:=g) (n:=6) oM
  (fun j=>[27,33,29,30,27,33].getD j 0)
  (fun j=>[#[],#[ptr b],#[],#[],#[],#[ptr b]].getD j #[])
  (fun j=>[#[ptr d,ptr q0,ptr (q0+1)],#[],#[ptr lb,ptr d],#[ptr d,ptr lb,ptr q],#[ptr d,ptr (q0+2),ptr (q0+2+1)],#[]].getD j #[])
  (fun j p=>Dv T p b (fmtK n F O j).1 (fmtK n F O j).2 []/\Upd T w p) (fun _ _=>False)
  (fun j U p H=>by
   have h1:=(H.2.block g (zd S) ad).trans S;rw[za h1];rcases(show j=0\/j=1\/j=2\/j=3\/j=4\/j=5 by omega)with rfl|rfl|rfl|rfl|rfl|rfl<;>rfl)
  (fun j U ar p=>by rcases(show j=0\/j=1\/j=2\/j=3\/j=4\/j=5 by omega)with rfl|rfl|rfl|rfl|rfl|rfl<;>rfl)
  (fun j U p H=>by
   obtain⟨A,k⟩:=H;have D:∀s,p.heap.size<=s->T s:=fun s ak=>W s (qXr k.size ak);have step:∀{r:DRes} {f:Nat} {a:Array Value},r.cd=0->r.P=[]->(fmtK n F O (j+1)).1=r.F->(fmtK n F O (j+1)).2=r.O->Calls prog f a p (AB T p b r)->Calls prog f a p (rE (fun _ _=>False) (fun p=>Dv T p b (fmtK n F O (j+1)).1 (fmtK n F O (j+1)).2 []/\Upd T w p)):=by
    intro r f a h1 h2 v J h;refine h.mono fun e au ⟨K,L,M⟩=>⟨0,by rw[K,h1],fun _=>⟨?_,k.trans M⟩,fun h=>absurd rfl h⟩;rw[v,J,<-h2];exact L
   rcases(show j=0\/j=1\/j=2\/j=3\/j=4\/j=5 by omega)with rfl|rfl|rfl|rfl|rfl|rfl
   .exact step rfl rfl rfl rfl (Zj A D 0 zB zG (k.jU cd E) (k.jU a7 t0) (k.range a8 af) (by have e:(fmtK n F O 0).1.length=F.length:=rfl;rw[e];omega) (by have e:(fmtK n F O 0).2.length=O.length:=rfl;rw[e];omega))
   .exact step rfl rfl rfl rfl (xg A D)
   .have v:(fmtK n F O 2).1.length=F.length:=uZ F O;exact step rfl rfl rfl (by show _=[]++zW (n.s0-1);rw[qzu];rfl) (QH A D n.s0 ah (k.jU cd E) (k.jU a6 G) G E (by rw[v];omega) (qXz _))
   .have v:(fmtK n F O 3).1.length=F.length:=uZ F O;have J:(fmtK n F O 3).2.length=n.s0-1:=Jv _;exact step rfl rfl rfl rfl (Jw A D (X.keep k R) R n.pa ai (by rw[v];omega) (by rw[J];omega) (k.jU cd E) (k.jU Z G) (k.jU Y ae))
   .have v:(fmtK n F O 4).1.length=F.length:=rS n F O;exact step rfl rfl rfl rfl (Zj A D 0 n.sec n.sec_len (k.jU cd E) (k.jU c2 ag) (k.range aa t3) (by rw[v];omega) (by have e:(fmtK n F O 4).2.length=0:=rfl;rw[e];omega))
   .exact step rfl rfl rfl rfl (xg A D))
  (w:=w) ⟨V,uur _ _⟩
 refine aj.mono fun e av ⟨c,K,h1,h2⟩=>?_;by_cases N:c=0
 .obtain ⟨L,M⟩:=h1 N;exact⟨by rw[K,N],L,M⟩
 .exact (h2 N).elim
theorem zaV{S T:Nat->Prop}{b aB:Nat}{F G:List Bk}{O Q:List (Nat×Bk)}{P:List Int}(U:Dv S w b F O [])(bf:∀k,w.heap.size<=k->S k)(aC:Dv T w aB G Q P)(aD:Nib w)(bg:¬S 1)
  (n:CaN) (aT:n.Ok) (bh:mayS n.I=true) (aU:F.length=n.size) (bi:G.length=n.bl) (bj:O.length<=50000):
  Calls prog 18 #[.agg n.C.toArray,ptr b,ptr aB] w (JO S w b (fmtF n F O)):=by
 obtain⟨V,W⟩:=qqe (n.C);obtain⟨X,ad⟩:=qqe (layC n.sl n.jo n.pa n.lo);obtain⟨an,aV⟩:=qqe (zB);have bk:=Y2 (xF an aV) aV;obtain⟨y,hy⟩:=qqe (n.sec);obtain⟨w1,ao⟩:=qqe ((w.alloc (.cells V.toArray 38)).alloc (.cells #[ptr b] 31));have bn:Upd (fun _=>False) w w1:=by rw[ao];exact((uur _ w).alloc _).alloc _
 have aW:w1.heap[w.heap.size]?=some (.cells V.toArray 38):=by
  rw[ao];exact(((uur (fun _=>False) (w.alloc (.cells V.toArray 38))).alloc (.cells #[ptr b] 31))).jV (zc w _ rfl)
 have aX:w1.heap[w.heap.size+1]?=some (.cells #[ptr b] 31):=by rw[ao];exact zc _ _ oe
 have bo:(prog.info? 38).map (·.size)=some V.length:=by rw[W];exact xt
 have bp:(prog.info? 62).map (·.size)=some X.length:=by rw[ad];exact xh
 have bq:∀bR∈X,bR.oneCell'=true:=by rw[ad];exact uX _ _ _ _
 have br:∀j,Calls prog 16 #[.agg V.toArray] j fun e s=>e=.returned (.tuple #[.agg X.toArray,.int .i64 0])/\Below j.heap.size j s:=fun j=>by
  rw[W,ad];obtain⟨bS,bT,bs,bt,bU,bV,bW,bX,a1,a2,bY,bZ,z⟩:=aT;exact uG n.id n.bl n.sl n.jo n.pa n.lo n.ba bS bT bs bt bU bV bW bX a1 a2 bY bZ z j
 have bu:∀j,Nib j->Calls prog 24 #[.agg V.toArray] j fun e s=>e=.returned (.tuple #[.agg (bkC y).toArray,.int .i64 0])/\Below j.heap.size j s:=fun j aD=>by
  rw[W];refine(Jp aD n.C rfl n.I rfl (fun j=>zfs _ _ _ _ _ _ _ j)).mono fun e s ⟨h,aC⟩=>⟨?_,aC⟩;rcases h with⟨-,rfl⟩|⟨h,-⟩
  .rw [hy];rfl
  .rw [bh]at h;cases h
 have bv:∀(bx bz:Nat->Prop) (j:World),Dv bx j b F O []->Dv bz j aB G Q P->Calls prog 25 #[.agg V.toArray,.agg X.toArray,ptr b,ptr aB] j fun e s=>e=.returned (.int .i64 0)/\Upd (fun _=>False) j s:=fun bx bz j h c0=>by
  have:=SS h c0 n.id n.bl n.sl n.jo n.pa n.lo n.ba;rw[show rG F G (sizeN n.sl n.jo n.pa n.lo) n.bl=0 from if_pos ⟨aU,bi⟩]at this;rw[W,ad];exact this
 have aY:=Y3 br bu bv;have A:=Y6 bo bp bq W ad hy;have aE:=Y8 U bf aC aD bg aT aU bj;have ae:=Y4 bn aW aX ao;have aZ:=zf aW;have c1:=za aX 0;rw[<-W];clear U bf aC aD bg aT aU bj W ad hy aV bh bi br bu bv bn aW aX ao bo bp bq;go_enter func18,ntmps18
 have aF:X.length=7:=by rw[A.o.2.2.2.2.1];rfl
 have ap:y.length=64:=by rw[A.o.2.2.2.2.2];exact n.sec_len
 have bA:=zv y ap;obtain⟨cj,bB⟩:=qqe (w.heap.size);have cl:=qqh bB;have Y:=Y6 ae.o.1 ae.o.2.1 ae.o.2.2.1 (zd ae.o.2.2.1) aF ap;clear bB aF ap;rw[ae.o.2.2.2]at aZ;go_wp2_with (first
  |(refine qZa rfl _ _ rfl _ _ rfl _ _ aZ underlying38 rfl A.o.1 ?_)
  |fail)
 rw[<-ae.o.2.2.2];clear aZ c1;refine(aY.o.1 w1).mono ?_;rintro e af ⟨rfl,bC⟩;obtain⟨b0,aG⟩:=qqe (af.alloc (.cells X.toArray 62));have aq:=qqb bC;have aH:=qqu aG;have bD:=(Y.o.1.trans aq).trans aH;have b1:=zf ((aq.trans aH).jV Y.o.2.1);rw[aG]at b1;have M:=Y4 aG (aq.trans aH) bD (show w1.heap.size<=af.heap.size from aq.size);have aF:=Y.o.2.2.2.2.1;clear bC aq aH bD aG;go_wp2_with (first
  |(refine zk rfl _ _ _ rfl _ _ _ rfl rfl (by rw[aF];rfl) A.o.2.1 A.o.2.2.1 ?_)
  |(refine qZa rfl _ _ rfl _ _ rfl _ _ b1 underlying38 rfl A.o.1 ?_)
  |fail)
 rw[<-M.o.1];refine(aY.o.2.1 b0 (aE.o.2.2.2.1.keep M.o.2.2.1 id)).mono ?_;rintro e b2 ⟨rfl,bE⟩;obtain⟨lb,K⟩:=qqe (af.heap.size);obtain⟨bF,ar⟩:=qqe (b2.alloc (.cells (bkC y).toArray 54));have ag:=qqb bE;have au:=qqu ar;have aI:=(M.o.2.2.1.trans ag).trans au;have b3:bF.heap[lb]?=some (.cells X.toArray 62 (0,0)):=(ag.trans au).jV (by rw[M.o.1,K];exact zc af _ rfl);have b4:=((M.o.2.1.trans ag).trans au).jV Y.o.2.1;have b5:=((M.o.2.1.trans ag).trans au).jV Y.o.2.2.1;have bG:=qqg ar;have b6:=zf b4;have aJ:=zf b3;have bH:=za b5 0;have c3:=qqh (aY.o.2.2 _ _ bF (aE.o.1.new aI) (aE.o.2.2.1.new aI));have N:=Y8 aI b3 b4 b5 bG K ar (show b0.heap.size<=b2.heap.size from ag.size);rw[K]at aJ;rw[ar]at b6 aJ bH;have ap:=Y.o.2.2.2.2.2;clear bE ag au aI b3 b4 b5 bG ar b1 K;go_wp2_with (first
  |(refine zk rfl _ _ _ rfl _ _ (bkC y) rfl rfl (by rw[zn,ap];rfl) bA (zu y) ?_)
  |(refine qZa rfl _ _ rfl _ _ rfl _ _ b6 underlying38 rfl A.o.1 ?_)
  |(refine qZa rfl _ _ rfl _ _ rfl _ _ aJ underlying62 rfl A.o.2.1 ?_)
  |fail)
 rw[<-N.o.2.2.2.2.2.2.1];refine c3.o.mono ?_;rintro e ah ⟨rfl,Z⟩;have aK:=N.o.1.trans Z;have ai:=Z.jV N.o.2.1;have av:=Z.jV N.o.2.2.1;have a6:=Z.jV N.o.2.2.2.1;have aj:=Z.jV N.o.2.2.2.2.1;have c1:ah.cell? ⟨w.heap.size+1,0,none⟩=some (ptr b):=za a6 0;have b7:=zf aj;obtain⟨sb,aL⟩:=qqe (b2.heap.size);obtain⟨d,U⟩:=qqe (w.heap.size+1);obtain⟨lb,K⟩:=qqe (af.heap.size);rw[<-aL]at aj b7;rw[N.o.2.2.2.2.2.1,<-K]at ai;rw[<-U]at a6 c1;have c4:=Y9 aK ai av a6 aj Z.size U K aL;have co:=qqf;clear Z aK ai av a6 aj b6 aJ bH;go_wp2_with fail
 rw[<-U,<-K,<-aL];clear aL U K;refine qZd (S:=fun j=>j.cell? ⟨d,0,none⟩=some (ptr b)/\j.rangeAt sb 0 (bkC y)) kR (⟨by rw[qYi];exact c1,by rw[qYk];exact b7⟩) (fun aM=>?_);refine Wl.i [0,5,6,7,3,10,4,11] ?_;iterate 8 refine Wl.t aM ?_
 refine Wl.o ?_;refine qYz (i:=1) (v:=.agg (bkC an).toArray) rfl kR kR kR (fun _ _ _ h=>h) (Or.inl ⟨by rfl,?_⟩) aM ?_
 .intro j _;simp only[execOp,qyx,qyr,qys,qzk,qzj,qYg,bk.o.1 j,qYf];rfl
 simp only[qyx,qyr,qys,Act.put,qXd,qXg,qXf];refine Wl.l 8 (fun w h=>h.2) underlying54 bA aM ?_;refine Wl.r 2 (fun E p=>?_);go_simp
 obtain⟨H,a7⟩:=qqe (ah.drew.heap.size);refine(Ju d 0 an _).mono ?_;rintro e a8 ⟨aa,aw⟩;rw[<-a7]at aa;subst aa;have ab:Upd (fun _=>False) ah a8:=by rw[aw];exact(((uur _ ah).drew).alloc _).alloc _
 have b8:a8.heap.size=H+2:=by rw[aw,a7];simp
 have aN:a8.heap[H+1]?=some (.cells (bkC an).toArray 54 (0,0)):=by rw[aw];exact zc _ _ (by rw[a7];simp)
 have aO:a8.heap[H]?=some (.cells #[.int .i64 0] 3 (0,0)):=by
  rw[aw];exact((uur (fun _=>False) (ah.drew.alloc (.cells #[.int .i64 0] 3))).alloc (.cells (bkC an).toArray 54)).jV (zc _ _ a7)
 have ax:=Y5 ab b8 aO aN (show H=ah.heap.size from a7);refine p.o _ _ (⟨ab.jU c1 id,ab.range b7 id⟩) (fun b9=>?_);clear p E aM ab b8 aN aO aw a7;refine Wl.r 9 (fun E p=>?_);go_simp
 refine(Ju d 0 y _).mono ?_;rintro e R ⟨aa,ay⟩;rw[ax.o.2.1]at aa;subst aa;have L:Upd (fun _=>False) a8 R:=by rw[ay];exact((uur _ a8).alloc _).alloc _
 have z9:R.heap.size=H+4:=by rw[ay];simp[ax.o.2.1]
 have aP:R.heap[H+2+1]?=some (.cells (bkC y).toArray 54 (0,0)):=by rw[ay];exact zc _ _ (by simp[ax.o.2.1])
 have aQ:R.heap[H+2]?=some (.cells #[.int .i64 0] 3 (0,0)):=by
  rw[ay];exact((uur (fun _=>False) (a8.alloc (.cells #[.int .i64 0] 3))).alloc (.cells (bkC y).toArray 54)).jV (zc _ _ ax.o.2.1.symm)
 have c5:=Y4 L z9 aQ aP;refine p.o _ _ (⟨L.jU b9.1 id,L.range b9.2 id⟩) (fun bb=>?_);clear p E b9 L z9 aP aQ ay;refine Wl.r 12 (fun E p=>?_);go_simp
 show E _ (R.alloc (.cells (fmtV d w.heap.size lb H b) 83));obtain⟨ak,az⟩:=qqe (R.alloc (.cells (fmtV d w.heap.size lb H b) 83));have D:=qqu az;have aA:=qqg az;have aR:ak.heap.size=R.heap.size+1:=by rw[az];simp
 obtain⟨g,aS⟩:=qqe (R.heap.size);rw[<-aS]at aA aR;rw[<-az,<-aS];have c6:=Y4 D aA aR aS;refine p.o _ _ (⟨D.jU bb.1 id,D.range bb.2 id⟩) (fun bc=>?_);clear p E bb D aA aR az aS;refine Wl.r 13 (fun E p=>?_);go_simp
 have bI:Hid (Calls prog 32 #[.slice (some ⟨g,0,none⟩) 6 6] ak (fun e s=>e=.returned (.int .i64 0)/\Dv S s b (fmtF n F O) [] []/\Upd S w s/\s.cell? ⟨d,0,none⟩=some (ptr b)/\s.rangeAt sb 0 (bkC y))):=by
  obtain⟨c7,c8,-,bJ,c9,cb,cc,cd⟩:=aE.o;obtain⟨aK,ai,av,a6,aj,cp,cq,cr,ct⟩:=c4.o;obtain⟨ab,b8,aO,aN,a7⟩:=ax.o;obtain⟨L,z9,aQ,aP⟩:=c5.o;obtain⟨D,aA,aR,hge⟩:=c6.o;have am:=((aK.trans ab).trans L).trans D;have bd:=(ab.trans L).trans D;have s0:=zd av;have bs:=zd a6;have bt:=zd ai;have cu:=zd aj;have cv:=bJ.lt;have cx:=Y.o.2.2.2.1;have cy:=M.o.2.2.2;have cz:af.heap.size<=b0.heap.size:=by rw[M.o.1];simp
  have cA:=N.o.2.2.2.2.2.2.2;have cB:=n.s0_size;have J:∀i,w.heap.size<=i->i<ak.heap.size->¬((S i/\i<w.heap.size)\/ak.heap.size<=i):=fun i h1 h2 h=>by rcases h with h|h<;>omega
  have gl:=bd.jV ai;have bK:=bd.jV av;rw[A.o.2.2.2.2.1]at gl;rw[A.o.2.2.2.1]at bK;have ce:=zaU (T:=fun k=>(S k/\k<w.heap.size)\/ak.heap.size<=k) (w:=ak) (b:=b) (g:=g) (d:=d) (q:=w.heap.size) (lb:=lb) (q0:=H) (n:=n) (F:=F) (O:=O) cb
   (((c7.kw (T:=fun k=>S k/\k<w.heap.size) (fun k h1 h2=>⟨h1,h2⟩)).keep am (fun _ _ h=>h)).wide (fun k h=> .inl h)) (fun k cf=> .inr cf) (bJ.keep am id) (fun h=>by rcases h with h|h;exact c9 h.1;have:=am.size;omega) cc cd aA
   (za (bd.jV a6) 0) (za bK 4) (za gl 0) (by have ch:=za gl 5;rw[ch];simp[layC,CaN.s0])
   (za ((L.trans D).jV aO) 0) (by rw[<-bk.o.2];exact zf ((L.trans D).jV aN)) (za (D.jV aQ) 0) (by rw[<-A.o.2.2.2.2.2];exact zf (D.jV aP))
   ⟨J _ oM oM,J _ oM oM,J _ oM oM,J _ oM oM,J _ oM oM,J _ oM oM,J _ oM oM,J _ oM oM⟩
  refine ce.mono fun e s ⟨aa,ci,be⟩=>⟨aa,ci.wide (fun k h=>?_),(am.mono fE).new be (fun i cC h=>?_),be.jU bc.1 (J _ oM oM),be.range bc.2 (J _ oM oM)⟩
  .rcases h with h|h
   .exact h.1
   .exact c8 k (by have:=am.size;omega)
  .rcases h with h|h
   .exact h.1
   .have:=am.size;omega
 refine bI.o.mono ?_;rintro e cD ⟨rfl,bL,bM,bN,bO⟩;have bP:=Y2 bL bM;refine p.o _ _ (⟨bN,bO⟩) (fun bQ=>?_);clear p E bc bL bM bN bO bI;refine Wl.r 14 (fun E p=>?_);go_simp
 refine p.o _ _ (bQ) (fun _=>?_);clear p E bQ;refine Wl.d ?_;go_wp2
 go_ret
 exact⟨rfl,bP.o.1,bP.o.2⟩
end Go.Proofs.YtbnpkobbnjihjaaGreatDoor
