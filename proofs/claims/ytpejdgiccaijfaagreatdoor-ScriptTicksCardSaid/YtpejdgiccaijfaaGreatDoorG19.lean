/- attach.Format -/
import Derived.Test.YtpejdgiccaijfaaGreatDoorG15
import Derived.Test.YtpejdgiccaijfaaGreatDoorG17
import Derived.Test.YtpejdgiccaijfaaGreatDoorG16
set_option maxRecDepth 100000
set_option maxHeartbeats 4000000
namespace Go.Proofs.YtpejdgiccaijfaaGreatDoor
open Go Go.RowKit Tryz
variable{w:World}{l F:List Bk}{T:Nat->Prop}{b:Nat}{O:List (Nat×Bk)}
def CaN.s0(n:CaN):Nat:=1+2*n.pa+n.jo+n.lo+n.lo+n.lo
theorem CaN.s0_size(n:CaN):n.size=n.s0+n.sl:=rfl
def CaN.I(n:CaN):List Int:=[n.id,n.bl,n.sl,n.jo,n.pa,n.lo,n.ba]
def CaN.sec(n:CaN):Bk:=sectS n.I
theorem CaN.sec_len(n:CaN):n.sec.length=64:=qe rfl
theorem CaN.may{n:CaN}(a:n.Ok)(h:n.id<=1099511627776):mayS n.I=true:=by
 obtain⟨j,p,q,s,v,A,D,E,a1,a2,G,H,z⟩:=a;unfold mayS withinB bndS CaN.I;simp only[List.zip_cons_cons,List.zip_nil_right,List.all_cons,List.all_nil,inB,qxo,decide_eq_true_eq,Bool.and_true];omega
def fmt1(F:List Bk)(O:List (Nat×Bk)):List Bk:=flushF F (O++[(0,zB)])
def Wz(n:CaN)(F:List Bk)(O:List (Nat×Bk)):List Bk:=flushF (fmt1 F O) (zW (n.s0-1)++ckO 1 n.pa (pagesB 0 []))
def fmtF(n:CaN)(F:List Bk)(O:List (Nat×Bk)):List Bk:=flushF (Wz n F O) [(0,n.sec)]
theorem tH(F:List Bk)(O:List (Nat×Bk)):(fmt1 F O).length=F.length:=zI _ _
theorem sM(n:CaN)(F:List Bk)(O:List (Nat×Bk)):(Wz n F O).length=F.length:=(zI _ _).trans (tH F O)
theorem WA(n:CaN)(F:List Bk)(O:List (Nat×Bk)):(fmtF n F O).length=F.length:=(zI _ _).trans (sM n F O)
def JY(S:Nat->Prop)(w:World)(b:Nat)(F:List Bk)(e:Ending)(w':World):Prop:=e=.returned (.int .i64 0)/\Dv S w' b F [] []/\Upd S w w'
def fmtK(n:CaN)(F:List Bk)(O:List (Nat×Bk)):Nat->List Bk×List (Nat×Bk)
 |0=>(F,O)
 |1=>(F,O++[(0,zB)])
 |2=>(fmt1 F O,[])
 |3=>(fmt1 F O,zW (n.s0-1))
 |4=>(Wz n F O,[])
 |5=>(Wz n F O,[(0,n.sec)])
 |_=>(fmtF n F O,[])
def fmtV(d q lb q0 b:Nat):Array Value:= #[.func (.func 48) #[] #[ptr d,ptr q0,ptr (q0+1)],.func (.func 54) #[ptr b] #[],.func (.func 50) #[] #[ptr lb,ptr d],
 .func (.func 51) #[] #[ptr d,ptr lb,ptr q],.func (.func 48) #[] #[ptr d,ptr (q0+2),ptr (q0+2+1)],.func (.func 54) #[ptr b] #[]]
theorem zaJ{g d q lb q0:Nat}{n:CaN}(U:n.Ok)(Y:Dv T w b F O [])(Z:∀p,w.heap.size<=p->T p)(a6:Nib w)(V:¬T 0)(ap:F.length=n.size)(aq:O.length<=50000)
  (W:w.heap[g]?=some (.cells (fmtV d q lb q0 b) 93 (0,0)))
  (cd:w.cell? ⟨d,0,none⟩=some (ptr b)) (a7:w.cell? ⟨q,4,none⟩=some (.int .i64 (n.pa:Int))) (a8:w.cell? ⟨lb,0,none⟩=some (.int .i64 1)) (aa:w.cell? ⟨lb,5,none⟩=some (.int .i64 (n.s0:Int)))
  (ab:w.cell? ⟨q0,0,none⟩=some (.int .i64 0)) (ad:w.rangeAt (q0+1) 0 (bkC zB)) (c2:w.cell? ⟨q0+2,0,none⟩=some (.int .i64 0)) (ae:w.rangeAt (q0+2+1) 0 (bkC n.sec))
  (af:¬T g/\¬T d/\¬T q/\¬T lb/\¬T q0/\¬T (q0+1)/\¬T (q0+2)/\¬T (q0+2+1)):
  Calls prog 53 #[.slice (some ⟨g,0,none⟩) 6 6] w (JY T w b (fmtF n F O)):=by
 obtain⟨ag,D,ah,E,t0,ai,aj,t3⟩:=af;have ar:=U.z;have au:=n.s0_size;have ak:1<=n.s0:=by unfold CaN.s0;omega
 have av:1+n.pa+n.pa<=n.size:=by unfold CaN.size;omega
 have am:1<=n.pa:=by have:=U.p1;omega
 have an:=zeM (g:=g) (n:=6) oM
  (fun k=>[48,54,50,51,48,54].getD k 0)
  (fun k=>[#[],#[ptr b],#[],#[],#[],#[ptr b]].getD k #[])
  (fun k=>[#[ptr d,ptr q0,ptr (q0+1)],#[],#[ptr lb,ptr d],#[ptr d,ptr lb,ptr q],#[ptr d,ptr (q0+2),ptr (q0+2+1)],#[]].getD k #[])
  (fun k j=>Dv T j b (fmtK n F O k).1 (fmtK n F O k).2 []/\Upd T w j) (fun _ _=>False)
  (fun k X j G=>by
   have h1:=(G.2.block g (zd W) ag).trans W;rw[za h1];rcases(show k=0\/k=1\/k=2\/k=3\/k=4\/k=5 by omega)with rfl|rfl|rfl|rfl|rfl|rfl<;>rfl)
  (fun k X aw j=>by rcases(show k=0\/k=1\/k=2\/k=3\/k=4\/k=5 by omega)with rfl|rfl|rfl|rfl|rfl|rfl<;>rfl)
  (fun k X j G=>by
   obtain⟨v,a⟩:=G;have A:∀p,j.heap.size<=p->T p:=fun p ao=>Z p (qXr a.size ao);have step:∀{r:DRes} {f:Nat} {H:Array Value},r.cd=0->r.P=[]->(fmtK n F O (k+1)).1=r.F->(fmtK n F O (k+1)).2=r.O->Calls prog f H j (Am T j b r)->Calls prog f H j (se (fun _ _=>False) (fun j=>Dv T j b (fmtK n F O (k+1)).1 (fmtK n F O (k+1)).2 []/\Upd T w j)):=by
    intro r f H h1 h2 s J h;refine h.mono fun e ax ⟨L,M,N⟩=>⟨0,by rw[L,h1],fun _=>⟨?_,a.trans N⟩,fun h=>absurd rfl h⟩;rw[s,J,<-h2];exact M
   rcases(show k=0\/k=1\/k=2\/k=3\/k=4\/k=5 by omega)with rfl|rfl|rfl|rfl|rfl|rfl
   .exact step rfl rfl rfl rfl (ZN v A 0 zB zH (a.j3 cd D) (a.j3 ab t0) (a.range ad ai) (by have e:(fmtK n F O 0).1.length=F.length:=rfl;rw[e];omega) (by have e:(fmtK n F O 0).2.length=O.length:=rfl;rw[e];omega))
   .exact step rfl rfl rfl rfl (xT v A)
   .have s:(fmtK n F O 2).1.length=F.length:=tH F O;exact step rfl rfl rfl (by show _=[]++zW (n.s0-1);rw[qzv];rfl) (Rf v A n.s0 ak (a.j3 cd D) (a.j3 aa E) E D (by rw[s];omega) (qXz _))
   .have s:(fmtK n F O 3).1.length=F.length:=tH F O;have J:(fmtK n F O 3).2.length=n.s0-1:=JE _;exact step rfl rfl rfl rfl (JF v A (a6.keep a V) V n.pa am (by rw[s];omega) (by rw[J];omega) (a.j3 cd D) (a.j3 a8 E) (a.j3 a7 ah))
   .have s:(fmtK n F O 4).1.length=F.length:=sM n F O;exact step rfl rfl rfl rfl (ZN v A 0 n.sec n.sec_len (a.j3 cd D) (a.j3 c2 aj) (a.range ae t3) (by rw[s];omega) (by have e:(fmtK n F O 4).2.length=0:=rfl;rw[e];omega))
   .exact step rfl rfl rfl rfl (xT v A))
  (w:=w) ⟨Y,uur _ _⟩
 refine an.mono fun e w' ⟨c,L,h1,h2⟩=>?_;by_cases Q:c=0
 .obtain ⟨M,N⟩:=h1 Q;exact⟨by rw[L,Q],M,N⟩
 .exact (h2 Q).elim
theorem zaK{S:Nat->Prop}{aC:Nat}{G:List Bk}{Q:List (Nat×Bk)}{P:List Int}(U:Dv S w b F O [])(bg:∀j,w.heap.size<=j->S j)(aD:Dv T w aC G Q P)(aE:Nib w)(bh:¬S 0)
  (n:CaN) (aU:n.Ok) (bi:mayS n.I=true) (aV:F.length=n.size) (bj:G.length=n.bl) (bn:O.length<=50000):
  Calls prog 28 #[.agg n.C.toArray,ptr b,ptr aC] w (JY S w b (fmtF n F O)):=by
 obtain⟨V,W⟩:=qqe (n.C);obtain⟨X,ad⟩:=qqe (layC n.sl n.jo n.pa n.lo);obtain⟨an,aW⟩:=qqe (zB);have bp:=Y2 (xO an aW) aW;obtain⟨y,hy⟩:=qqe (n.sec);obtain⟨w1,ao⟩:=qqe ((w.alloc (.cells V.toArray 44)).alloc (.cells #[ptr b] 38));have bq:Upd (fun _=>False) w w1:=by rw[ao];exact((uur _ w).alloc _).alloc _
 have aX:w1.heap[w.heap.size]?=some (.cells V.toArray 44):=by
  rw[ao];exact(((uur (fun _=>False) (w.alloc (.cells V.toArray 44))).alloc (.cells #[ptr b] 38))).j4 (zc w _ rfl)
 have aY:w1.heap[w.heap.size+1]?=some (.cells #[ptr b] 38):=by rw[ao];exact zc _ _ oe
 have br:(prog.info? 44).map (·.size)=some V.length:=by rw[W];exact xB
 have bs:(prog.info? 73).map (·.size)=some X.length:=by rw[ad];exact xU
 have bt:∀bU∈X,bU.oneCell'=true:=by rw[ad];exact tG _ _ _ _
 have bu:∀a,Calls prog 26 #[.agg V.toArray] a fun e w'=>e=.returned (.tuple #[.agg X.toArray,.int .i64 0])/\Below a.heap.size a w':=fun a=>by
  rw[W,ad];obtain⟨bV,bW,bv,bx,bX,bY,bZ,c0,a1,a2,c3,c4,z⟩:=aU;exact tc n.id n.bl n.sl n.jo n.pa n.lo n.ba bV bW bv bx bX bY bZ c0 a1 a2 c3 c4 z a
 have bz:∀a,Nib a->Calls prog 45 #[.agg V.toArray] a fun e w'=>e=.returned (.tuple #[.agg (bkC y).toArray,.int .i64 0])/\Below a.heap.size a w':=fun a aE=>by
  rw[W];refine(JK aE n.C rfl n.I rfl (fun a=>zfk _ _ _ _ _ _ _ a)).mono fun e w' ⟨h,aD⟩=>⟨?_,aD⟩;rcases h with⟨-,rfl⟩|⟨h,-⟩
  .rw [hy];rfl
  .rw [bi]at h;cases h
 have bA:∀(bB bC:Nat->Prop) (a:World),Dv bB a b F O []->Dv bC a aC G Q P->Calls prog 46 #[.agg V.toArray,.agg X.toArray,ptr b,ptr aC] a fun e w'=>e=.returned (.int .i64 0)/\Upd (fun _=>False) a w':=fun bB bC a h c5=>by
  have:=SD h c5 n.id n.bl n.sl n.jo n.pa n.lo n.ba;rw[show sg F G (sizeN n.sl n.jo n.pa n.lo) n.bl=0 from if_pos ⟨aV,bj⟩]at this;rw[W,ad];exact this
 have aZ:=Y3 bu bz bA;have s:=Y6 br bs bt W ad hy;have aF:=Y8 U bg aD aE bh aU aV bn;have ae:=Y4 bq aX aY ao;have b0:=zg aX;have c1:=za aY 0;rw[<-W];clear U bg aD aE bh aU aV bn W ad hy aW bi bj bu bz bA bq aX aY ao br bs bt;go_enter func28,ntmps28
 have aG:X.length=7:=by rw[s.o.2.2.2.2.1];rfl
 have ap:y.length=64:=by rw[s.o.2.2.2.2.2];exact n.sec_len
 have bD:=zu y ap;obtain⟨cp,bE⟩:=qqe (w.heap.size);have cq:=qqh bE;have Y:=Y6 ae.o.1 ae.o.2.1 ae.o.2.2.1 (zd ae.o.2.2.1) aG ap;clear bE aG ap;rw[ae.o.2.2.2]at b0;go_wp2_with (first
  |(refine qYz rfl _ _ rfl _ _ rfl _ _ b0 underlying44 rfl s.o.1 ?_)
  |fail)
 rw[<-ae.o.2.2.2];clear b0 c1;refine(aZ.o.1 w1).mono ?_;rintro e af ⟨rfl,bF⟩;obtain⟨b1,aH⟩:=qqe (af.alloc (.cells X.toArray 73));have aq:=qqb bF;have aI:=qqu aH;have bG:=(Y.o.1.trans aq).trans aI;have b2:=zg ((aq.trans aI).j4 Y.o.2.1);rw[aH]at b2;have L:=Y4 aH (aq.trans aI) bG (show w1.heap.size<=af.heap.size from aq.size);have aG:=Y.o.2.2.2.2.1;clear bF aq aI bG aH;go_wp2_with (first
  |(refine zk rfl _ _ _ rfl _ _ _ rfl rfl (by rw[aG];rfl) s.o.2.1 s.o.2.2.1 ?_)
  |(refine qYz rfl _ _ rfl _ _ rfl _ _ b2 underlying44 rfl s.o.1 ?_)
  |fail)
 rw[<-L.o.1];refine(aZ.o.2.1 b1 (aF.o.2.2.2.1.keep L.o.2.2.1 id)).mono ?_;rintro e b3 ⟨rfl,bH⟩;obtain⟨ar,H⟩:=qqe (af.heap.size);obtain⟨bI,au⟩:=qqe (b3.alloc (.cells (bkC y).toArray 60));have ag:=qqb bH;have av:=qqu au;have aJ:=(L.o.2.2.1.trans ag).trans av;have b4:bI.heap[ar]?=some (.cells X.toArray 73 (0,0)):=(ag.trans av).j4 (by rw[L.o.1,H];exact zc af _ rfl);have b5:=((L.o.2.1.trans ag).trans av).j4 Y.o.2.1;have b6:=((L.o.2.1.trans ag).trans av).j4 Y.o.2.2.1;have bJ:=qqg au;have b7:=zg b5;have aK:=zg b4;have bK:=za b6 0;have c6:=qqh (aZ.o.2.2 _ _ bI (aF.o.1.new aJ) (aF.o.2.2.1.new aJ));have M:=Y8 aJ b4 b5 b6 bJ H au (show b1.heap.size<=b3.heap.size from ag.size);rw[H]at aK;rw[au]at b7 aK bK;have ap:=Y.o.2.2.2.2.2;clear bH ag av aJ b4 b5 b6 bJ au b2 H;go_wp2_with (first
  |(refine zk rfl _ _ _ rfl _ _ (bkC y) rfl rfl (by rw[zm,ap];rfl) bD (zx y) ?_)
  |(refine qYz rfl _ _ rfl _ _ rfl _ _ b7 underlying44 rfl s.o.1 ?_)
  |(refine qYz rfl _ _ rfl _ _ rfl _ _ aK underlying73 rfl s.o.2.1 ?_)
  |fail)
 rw[<-M.o.2.2.2.2.2.2.1];refine c6.o.mono ?_;rintro e ah ⟨rfl,Z⟩;have aL:=M.o.1.trans Z;have ai:=Z.j4 M.o.2.1;have aw:=Z.j4 M.o.2.2.1;have a6:=Z.j4 M.o.2.2.2.1;have aj:=Z.j4 M.o.2.2.2.2.1;have c1:ah.cell? ⟨w.heap.size+1,0,none⟩=some (ptr b):=za a6 0;have b8:=zg aj;obtain⟨sb,aM⟩:=qqe (b3.heap.size);obtain⟨d,U⟩:=qqe (w.heap.size+1);obtain⟨ar,H⟩:=qqe (af.heap.size);rw[<-aM]at aj b8;rw[M.o.2.2.2.2.2.1,<-H]at ai;rw[<-U]at a6 c1;have c7:=Y9 aL ai aw a6 aj Z.size U H aM;have cr:=qqf;clear Z aL ai aw a6 aj b7 aK bK;go_wp2_with fail
 rw[<-U,<-H,<-aM];clear aM U H;refine qZc (S:=fun a=>a.cell? ⟨d,0,none⟩=some (ptr b)/\a.rangeAt sb 0 (bkC y)) kR (⟨by rw[qYi];exact c1,by rw[qYk];exact b8⟩) (fun aN=>?_);refine Wl.i [0,5,6,7,3,10,4,11] ?_;iterate 8 refine Wl.t aN ?_
 refine Wl.o ?_;refine qYy (i:=1) (v:=.agg (bkC an).toArray) rfl kR kR kR (fun _ _ _ h=>h) (Or.inl ⟨by rfl,?_⟩) aN ?_
 .intro a _;simp only[execOp,qyy,qys,qyt,qzl,qzk,qYg,bp.o.1 a,qYf];rfl
 simp only[qyy,qys,qyt,Act.put,qXe,qXh,qXg];refine Wl.l 8 (fun w h=>h.2) underlying60 bD aN ?_;refine Wl.r 2 (fun K p=>?_);go_simp
 obtain⟨D,a7⟩:=qqe (ah.drew.heap.size);refine(JD d 0 an _).mono ?_;rintro e a8 ⟨aa,ax⟩;rw[<-a7]at aa;subst aa;have ab:Upd (fun _=>False) ah a8:=by rw[ax];exact(((uur _ ah).drew).alloc _).alloc _
 have b9:a8.heap.size=D+2:=by rw[ax,a7];simp
 have aO:a8.heap[D+1]?=some (.cells (bkC an).toArray 60 (0,0)):=by rw[ax];exact zc _ _ (by rw[a7];simp)
 have aP:a8.heap[D]?=some (.cells #[.int .i64 0] 3 (0,0)):=by
  rw[ax];exact((uur (fun _=>False) (ah.drew.alloc (.cells #[.int .i64 0] 3))).alloc (.cells (bkC an).toArray 60)).j4 (zc _ _ a7)
 have ay:=Y5 ab b9 aP aO (show D=ah.heap.size from a7);refine p.o _ _ (⟨ab.j3 c1 id,ab.range b8 id⟩) (fun bb=>?_);clear p K aN ab b9 aO aP ax a7;refine Wl.r 9 (fun K p=>?_);go_simp
 refine(JD d 0 y _).mono ?_;rintro e N ⟨aa,az⟩;rw[ay.o.2.1]at aa;subst aa;have J:Upd (fun _=>False) a8 N:=by rw[az];exact((uur _ a8).alloc _).alloc _
 have z9:N.heap.size=D+4:=by rw[az];simp[ay.o.2.1]
 have aQ:N.heap[D+2+1]?=some (.cells (bkC y).toArray 60 (0,0)):=by rw[az];exact zc _ _ (by simp[ay.o.2.1])
 have aR:N.heap[D+2]?=some (.cells #[.int .i64 0] 3 (0,0)):=by
  rw[az];exact((uur (fun _=>False) (a8.alloc (.cells #[.int .i64 0] 3))).alloc (.cells (bkC y).toArray 60)).j4 (zc _ _ ay.o.2.1.symm)
 have c8:=Y4 J z9 aR aQ;refine p.o _ _ (⟨J.j3 bb.1 id,J.range bb.2 id⟩) (fun bc=>?_);clear p K bb J z9 aQ aR az;refine Wl.r 12 (fun K p=>?_);go_simp
 show K _ (N.alloc (.cells (fmtV d w.heap.size ar D b) 93));obtain⟨ak,aA⟩:=qqe (N.alloc (.cells (fmtV d w.heap.size ar D b) 93));have A:=qqu aA;have aB:=qqg aA;have aS:ak.heap.size=N.heap.size+1:=by rw[aA];simp
 obtain⟨g,aT⟩:=qqe (N.heap.size);rw[<-aT]at aB aS;rw[<-aA,<-aT];have c9:=Y4 A aB aS aT;refine p.o _ _ (⟨A.j3 bc.1 id,A.range bc.2 id⟩) (fun bd=>?_);clear p K bc A aB aS aA aT;refine Wl.r 13 (fun K p=>?_);go_simp
 have bL:Hid (Calls prog 53 #[.slice (some ⟨g,0,none⟩) 6 6] ak (fun e w'=>e=.returned (.int .i64 0)/\Dv S w' b (fmtF n F O) [] []/\Upd S w w'/\w'.cell? ⟨d,0,none⟩=some (ptr b)/\w'.rangeAt sb 0 (bkC y))):=by
  obtain⟨cb,cc,-,bM,cd,ce,cf,ch⟩:=aF.o;obtain⟨aL,ai,aw,a6,aj,ct,cu,cv,cx⟩:=c7.o;obtain⟨ab,b9,aP,aO,a7⟩:=ay.o;obtain⟨J,z9,aR,aQ⟩:=c8.o;obtain⟨A,aB,aS,hge⟩:=c9.o;have am:=((aL.trans ab).trans J).trans A;have be:=(ab.trans J).trans A;have s0:=zd aw;have bv:=zd a6;have bx:=zd ai;have cy:=zd aj;have cz:=bM.lt;have cA:=Y.o.2.2.2.1;have cB:=L.o.2.2.2;have cC:af.heap.size<=b1.heap.size:=by rw[L.o.1];simp
  have cD:=M.o.2.2.2.2.2.2.2;have cE:=n.s0_size;have E:∀i,w.heap.size<=i->i<ak.heap.size->¬((S i/\i<w.heap.size)\/ak.heap.size<=i):=fun i h1 h2 h=>by rcases h with h|h<;>omega
  have gl:=be.j4 ai;have bN:=be.j4 aw;rw[s.o.2.2.2.2.1]at gl;rw[s.o.2.2.2.1]at bN;have ci:=zaJ (T:=fun j=>(S j/\j<w.heap.size)\/ak.heap.size<=j) (w:=ak) (b:=b) (g:=g) (d:=d) (q:=w.heap.size) (lb:=ar) (q0:=D) (n:=n) (F:=F) (O:=O) ce
   (((cb.kI (T:=fun j=>S j/\j<w.heap.size) (fun j h1 h2=>⟨h1,h2⟩)).keep am (fun _ _ h=>h)).wide (fun j h=> .inl h)) (fun j cj=> .inr cj) (bM.keep am id) (fun h=>by rcases h with h|h;exact cd h.1;have:=am.size;omega) cf ch aB
   (za (be.j4 a6) 0) (za bN 4) (za gl 0) (by have cl:=za gl 5;rw[cl];simp[layC,CaN.s0])
   (za ((J.trans A).j4 aP) 0) (by rw[<-bp.o.2];exact zg ((J.trans A).j4 aO)) (za (A.j4 aR) 0) (by rw[<-s.o.2.2.2.2.2];exact zg (A.j4 aQ))
   ⟨E _ oM oM,E _ oM oM,E _ oM oM,E _ oM oM,E _ oM oM,E _ oM oM,E _ oM oM,E _ oM oM⟩
  refine ci.mono fun e w' ⟨aa,co,bf⟩=>⟨aa,co.wide (fun j h=>?_),(am.mono fE).new bf (fun i cF h=>?_),bf.j3 bd.1 (E _ oM oM),bf.range bd.2 (E _ oM oM)⟩
  .rcases h with h|h
   .exact h.1
   .exact cc j (by have:=am.size;omega)
  .rcases h with h|h
   .exact h.1
   .have:=am.size;omega
 refine bL.o.mono ?_;rintro e cG ⟨rfl,bO,bP,bQ,bR⟩;have bS:=Y2 bO bP;refine p.o _ _ (⟨bQ,bR⟩) (fun bT=>?_);clear p K bd bO bP bQ bR bL;refine Wl.r 14 (fun K p=>?_);go_simp
 refine p.o _ _ (bT) (fun _=>?_);clear p K bT;refine Wl.d ?_;go_wp2
 go_ret
 exact⟨rfl,bS.o.1,bS.o.2⟩
def zdp(S:Nat->Prop)(w:World)(b:Nat)(F:List Bk)(O:List (Nat×Bk))(r:List Value×Int)(e:Ending)(w':World):Prop:=e=.returned (.tuple #[.agg r.1.toArray,.int .i64 r.2])/\Dv S w' b F O []/\Upd S w w'
def supR(n:CaN)(F G:List Bk)(y:Bk):List Value×Int:=if okS y=true then(if F.length=n.size/\G.length=n.bl then(n.C,0)else(zeroS,22))else(zeroS,cdS y)
theorem YN:∀w:World,(Instr.alloc 44 true (.tuple #[])).run prog w=.ok (.pointer (some ⟨w.heap.size,0,none⟩)) (w.alloc (.cells zeroS.toArray 44)):=by
 intro w;kernel_rfl
theorem YO:∀w:World,(Instr.build 44 #[]).run prog w=.ok (.agg zeroS.toArray) w:=by
 intro w;kernel_rfl
theorem xl{h:Array Oper}{rest:List Oper}{op:Oper}{a:Act}{Q:Exit->Act->World->Prop}(j:op.guard=none)(t:TypeId)(n:op.op=.build t #[]){v:Value}
  (p:∀w:World,(Instr.build t #[]).run prog w=.ok v w)
  (q:wpList prog h Q rest (a.put op.dst v) w):wpList prog h Q (op::rest) a w:=by
 refine qZa j fun A s=>?_;unfold Oper.wp;simp only[execOp,n,qzl,qzk,qYg,p,qYf];exact s _ _ q
theorem zdq{y:Bk}(h:okS y=false):cdS y=12\/cdS y=13:=by
 unfold okS at h;unfold cdS xu;rw[h,if_neg oe];split
 .exact .inl rfl
 .exact .inr rfl
theorem zdr{S:Nat->Prop}{b1:Nat}{G:List Bk}{Q:List (Nat×Bk)}{P:List Int}(ay:Dv S w b F O [])(az:∀a,w.heap.size<=a->S a)(b2:Dv T w b1 G Q P)(b3:∀a,T a->¬S a)(b4:Nib w)(b5:¬S 0)(b6:0<F.length)
  (n:CaN) (b7:n.Ok) (hy:okS (curB F O 0)=true->dsS (natsI (numsS (curB F O 0)))=n.C):
  Calls prog 84 #[ptr b,ptr b1] w (zdp S w b F O (supR n F G (curB F O 0))):=by
 obtain⟨p,A⟩:=qqe (zeroS);have ai:=YN;have aA:=YO;simp only[<-A]at ai aA;have HZZ:Hid (p=zeroS/\p.length=7/\p.toArray.size=7/\(prog.info? 44).map (·.size)=some p.toArray.size/\(p.toArray).all (·.oneCell')=true/\(prog.info? 44).map (·.size)=some p.length/\∀u∈p,u.oneCell'=true):=
  ⟨A,by rw[A];rfl,by rw[A];rfl,by rw[A];exact yv,by rw[A];exact sJ,by rw[A];exact yv,by rw[A];exact qxv.1 (by simp[zeroS,Value.oneCell'])⟩
 obtain⟨y,aj⟩:=qqe (curB F O 0);obtain⟨R,ak⟩:=qqe (supR n F G (curB F O 0));rw[<-ak];rw[<-aj]at ak hy;have aB:y.length=64:=by rw[aj];exact rn ay.good 0
 obtain⟨w1,aa⟩:=qqe (w.alloc (.cells p.toArray 44));have aC:=qqu aa;have b8:=qqg aa;have b9:w1.heap.size=w.heap.size+1:=by rw[aa];simp
 have aD:=(ay.but (qXp _)).keep aC (fun _ _ h=>h);have aE:∀a,w1.heap.size<=a->S a/\a≠w.heap.size:=fun a bR=>⟨az a oM,oM⟩
 have bb:=qqh (ux aD aE 0 b6);have H:=Y9 aD aE b2 b3 b4 b5 b7 hy ak;have J:=Y6 aa aC b8 b9 aj (az _ (qXp _));have bc:=zu y aB;clear ay az b2 b3 b4 b5 b6 b7 hy ak aD aE aa aC b8 b9 aj A;go_enter func84,ntmps84
 go_wp2_with (first
  |(refine zU rfl _ rfl _ ai ?_)
  |fail)
 rw[<-J.o.1];refine bb.out.mono ?_;rintro e aF ⟨q,bS,rfl,aG,bd,-,be,aH⟩;rw[if_neg de]at aG bd;rw[<-J.o.2.2.2.2.1]at aG;subst aG bd;have bf:=(aH.block _ (zd J.o.2.2.1) (fun h=>h.2 rfl)).trans J.o.2.2.1;obtain⟨aI,ab⟩:=qqe (aF.alloc (.cells (bkC q).toArray 60));have am:=qqu ab;have aJ:aI.rangeAt aF.heap.size 0 (bkC q):=by rw[ab];exact zg (zc aF _ rfl)
 have aK:Upd (fun a=>S a/\a≠w.heap.size) w1 aI:=aH.trans (am.mono fE);have aL:Nib aI:=(H.o.2.2.2.2.1.keep J.o.2.1 id).keep aK (fun h=>H.o.2.2.2.2.2.1 h.1);have bg:=qqh (JQ aL q aB);have an:=Y5 ab aK (be.new am) (am.j4 bf) aL;rw[ab]at aJ;clear be aH bf am aK aL ab bb;go_wp2_with (first
  |(refine zk rfl _ _ _ rfl _ _ (bkC q) rfl rfl (by rw[zm,aB];rfl) bc (zx q) ?_)
  |(refine qYz rfl _ _ rfl _ _ rfl _ _ aJ underlying60 rfl bc ?_)
  |fail)
 rw[<-an.o.1];refine bg.o.mono ?_;rintro e ad ⟨⟨j,aM,aN,rfl⟩,bh⟩;have ao:=qqb bh;have D:Hid (j.length=7/\∀aO∈j,aO.oneCell'=true):=by
  cases s:okS q with
  |true=>rw[aM s];exact⟨re _,rf _⟩
  |false=>rw[aN s];exact⟨rfl,qxv.1 (by simp[zeroS,Value.oneCell']:zeroS.all (·.oneCell')=true)⟩
 have U:Hid ((prog.info? 44).map (·.size)=some j.length):=by show _=_;rw[D.out.1];exact yv
 obtain⟨E,V⟩:=qqe (ad.alloc (.cells j.toArray 44));have ap:=qqu V;have aP:Upd (fun a=>S a/\a≠w.heap.size) w1 E:=an.o.2.1.trans ((ao.trans ap).mono fE);have aQ:=an.o.2.2.1.new (ao.trans ap);have aR:=(ao.trans ap).j4 an.o.2.2.2.1;have aq:E.rangeAt ad.heap.size 0 j:=by rw[V];exact zg (zc ad _ rfl)
 have tA:=zF (n:=7) aR oy;have bi:Hid (∀v,Upd (fun a=>a=w.heap.size) E v->Dv S v b F O []/\Upd S w v):=fun v ar=>⟨(aQ.keep ar (fun a h e=>h.2 e)).wide (fun a h=>h.1),((J.o.2.1.mono fE).trans (aP.mono (fun _ _ h=>h.1))).trans (ar.mono (fun a _ e=>by rw[e];exact J.o.2.2.2.2.2))⟩
 have L:=Y5 V aQ aR aq aP;have bx:=Y2 aM aN;clear bh ao ap aP aQ aR aJ aM aN bg;rw[V]at tA aq;have bj:(ad.alloc (.cells j.toArray 44)).there w.heap.size 0 p.toArray.size:=by rw[HZZ.o.2.2.1];exact tA
 cases s:okS q with
 |false=>
  have ae:R=(zeroS,cdS q):=by rw[H.o.2.2.2.2.2.2.2.2];unfold supR;rw[s,if_neg oe]
  have aS:=zdq s;have W:=Y2 ae aS;have bn:¬cdS q=0:=by rcases aS with h|h<;>rw[h]<;>decide
  have q1:(cdS q==0)=false:=by simpa using bn
  have q2:(cdS q !=0)=true:=by simpa using bn
  clear ae aS V s;generalize cdS q=bT at*;go_wp2_with (first
   |(refine zU rfl _ rfl _ ai ?_)
   |(refine zk rfl _ _ _ rfl _ _ j rfl rfl (by rw[HZZ.o.2.2.1,D.out.1]) U.out D.out.2 ?_)
   |(refine xl rfl _ rfl aA ?_)
   |(refine qZb rfl _ _ _ rfl _ _ p.toArray rfl rfl bj HZZ.o.2.2.2.1 HZZ.o.2.2.2.2.1 ?_)
   |fail)
  rw[W.o.1];refine qYq (zp rfl _ _ w.heap.size 0 p _ rfl (qYl _ _ _ _ jS) underlying44 rfl HZZ.o.2.2.2.2.2.1) rfl ?_;rw[<-L.o.1];have h:=bi.o _ (zn E w.heap.size 0 p);exact⟨by rw[HZZ.o.1];rfl,h.1,h.2⟩
 |true=>
  have X:cdS q=0:=by unfold okS at s;unfold cdS xu;rw[s,if_pos rfl]
  have aT:j=n.C:=(bx.o.1 s).trans (H.o.2.2.2.2.2.2.2.1 s);have ae:R=if F.length=n.size/\G.length=n.bl then(n.C,0)else(zeroS,22):=by rw[H.o.2.2.2.2.2.2.2.2];unfold supR;rw[if_pos s]
  have W:=Y2 aT ae;obtain⟨M,Y⟩:=qqe (layC n.sl n.jo n.pa n.lo);have bz:Hid (Calls prog 26 #[.agg j.toArray] E fun e w'=>e=.returned (.tuple #[.agg M.toArray,.int .i64 0])/\Below E.heap.size E w'):=by
   show Calls _ _ _ _ _;rw[aT,Y];obtain⟨bA,bB,bC,bD,bE,bF,bG,bH,a1,a2,bI,bJ,z⟩:=H.o.2.2.2.2.2.2.1;exact tc n.id n.bl n.sl n.jo n.pa n.lo n.ba bA bB bC bD bE bF bG bH a1 a2 bI bJ z E
  have au:M.length=7:=by rw[Y];rfl
  have af:=Y4 (show(prog.info? 73).map (·.size)=some M.length by rw[Y];exact xU) (show∀aO∈M,aO.oneCell'=true by rw[Y];exact tG _ _ _ _) au Y;rw[X];clear X aT ae Y au V s;go_wp2_with (first
   |(refine zU rfl _ rfl _ ai ?_)
   |(refine zk rfl _ _ _ rfl _ _ j rfl rfl (by rw[HZZ.o.2.2.1,D.out.1]) U.out D.out.2 ?_)
   |(refine qYz rfl _ _ rfl _ _ rfl _ _ aq underlying44 rfl U.out ?_)
   |fail)
  rw[<-L.o.1];refine bz.out.mono ?_;rintro e av ⟨rfl,bp⟩;have aU:=qqb bp;obtain⟨bK,ag⟩:=qqe (av.alloc (.cells M.toArray 73));have bq:=qqu ag;have Z:=aU.trans bq;have aV:=Z.j4 L.o.2.2.1;have aW:=Z.range L.o.2.2.2.1 id;have aX:bK.rangeAt av.heap.size 0 M:=by rw[ag];exact zg (zc av _ rfl)
  have br:=((H.o.2.2.1.new J.o.2.1).keep L.o.2.2.2.2 (fun a h bL=>H.o.2.2.2.1 a h bL.1)).new Z;have aY:=L.o.2.1.new Z;have a6:=SD aY br n.id n.bl n.sl n.jo n.pa n.lo n.ba;rw[show superC n.id n.bl n.sl n.jo n.pa n.lo n.ba=j from W.o.1.symm,<-af.o.2.2.2]at a6;obtain⟨bs,aZ⟩:=qqe (sg F G (sizeN n.sl n.jo n.pa n.lo) n.bl);rw[<-aZ]at a6;replace a6:=qqh a6;have bt:=zF (n:=7) aV oy;have a7:=Y6 ag Z aV aY aZ (show E.heap.size<=av.heap.size from aU.size);have au:=af.o.2.2.1;rw[ag]at aW aX bt;clear bp aU bq Z aV aY br ag aZ tA bj aq;go_wp2_with (first
   |(refine zk rfl _ _ _ rfl _ _ M rfl rfl (by rw[au];rfl) af.o.1 af.o.2.1 ?_)
   |(refine qYz rfl _ _ rfl _ _ rfl _ _ aW underlying44 rfl U.out ?_)
   |(refine qYz rfl _ _ rfl _ _ rfl _ _ aX underlying73 rfl af.o.1 ?_)
   |fail)
  rw[<-a7.o.1];refine a6.out.mono ?_;rintro e N ⟨rfl,aw⟩;have bu:=aw.j4 a7.o.2.2.1;have ax:=zF (n:=7) bu oy;have bM:N.rangeAt ad.heap.size 0 j:=by
   have:=(a7.o.2.1.trans aw).range L.o.2.2.2.1 id;exact this
  have bv:Hid (∀v,Upd (fun a=>a=w.heap.size) N v->Dv S v b F O []/\Upd S w v):=fun v ar=>bi.o v ((((a7.o.2.1.trans aw).mono fE)).trans ar)|>.imp id id
  clear aw bu aW aX bt a6;by_cases a8:F.length=n.size/\G.length=n.bl
  .have X:bs=0:=by rw[a7.o.2.2.2.2.1];exact if_pos a8
   have ah:R=(n.C,0):=by rw[W.o.2,if_pos a8]
   have b0:=qqh ah;have bN:N.there w.heap.size 0 j.toArray.size:=by rw[show j.toArray.size=7 by simpa using D.out.1];exact ax
   have bO:N.there w.heap.size 0 j.length:=by rw[D.out.1];exact ax
   have bP:Hid ((prog.info? 44).map (·.size)=some j.toArray.size):=by show _=_;rw[show j.toArray.size=7 by simpa using D.out.1];exact yv
   subst X;clear ah a8;go_wp2_with (first
    |(refine qYz rfl _ _ rfl _ _ rfl _ _ bM underlying44 rfl U.out ?_)
    |(refine qZb rfl _ _ _ rfl _ _ j.toArray rfl rfl bN bP.out (qYo D.out.2) ?_)
    |fail)
   rw[b0.o];refine qYq (zp rfl _ _ w.heap.size 0 j _ rfl (qYl _ _ _ _ bO) underlying44 rfl U.out) rfl ?_;have h:=bv.o _ (zn N w.heap.size 0 j);exact⟨by rw[W.o.1];rfl,h.1,h.2⟩
  .have X:bs=22:=by rw[a7.o.2.2.2.2.1];exact if_neg a8
   have ah:R=(zeroS,22):=by rw[W.o.2,if_neg a8]
   have b0:=qqh ah;have bQ:N.there w.heap.size 0 p.toArray.size:=by rw[HZZ.o.2.2.1];exact ax
   subst X;clear ah a8;go_wp2_with (first
    |(refine xl rfl _ rfl aA ?_)
    |(refine qZb rfl _ _ _ rfl _ _ p.toArray rfl rfl bQ HZZ.o.2.2.2.1 HZZ.o.2.2.2.2.1 ?_)
    |fail)
   rw[b0.o];refine qYq (zp rfl _ _ w.heap.size 0 p _ rfl (qYl _ _ _ _ (by rw[HZZ.o.2.1];exact ax)) underlying44 rfl HZZ.o.2.2.2.2.2.1) rfl ?_;have h:=bv.o _ (zn N w.heap.size 0 p);exact⟨by rw[HZZ.o.1];rfl,h.1,h.2⟩
structure LgsY(bad:Prop)(S:Nat->Prop)(w:World)(li lc lf d base k:Nat)(F:List Bk)(O:List (Nat×Bk)):Prop where
 i:LogI w li d base k 150
 c:LogC w lc d (base+k) k 154
 f:LogF w lf d (base+k+k) k 158
 dv:Dv S w d F O []
 fl:base+k+k+k<=F.length
 nS:∀j,w.heap.size<=j->S j
 iS:¬S li
 cS:¬S lc
 fS:¬S lf
 nib:Nib w
 nibS:¬S 0
 zs:∀j,j<k+k+k->curB F O (base+j)=zB\/bad/\sealB (curB F O (base+j))≠curB F O (base+j)
section
variable{bad:Prop}{S:Nat->Prop}{w w':World}{li lc lf d base k:Nat}{F:List Bk}{O:List (Nat×Bk)}
theorem LgsY.turn(a:LgsY bad S w li lc lf d base k F O)(hu:Upd S w w')(h:Dv S w' d F O []):LgsY bad S w' li lc lf d base k F O:=
 {a with i:=a.i.keep hu a.iS,c:=a.c.keep hu a.cS,f:=a.f.keep hu a.fS,dv:=h,nS:=fun j n=>a.nS j (qXr hu.size n),nib:=a.nib.keep hu a.nibS}
theorem LgsY.allI(h:LgsY bad S w li lc lf d base k F O):Calls prog 159 #[.pointer (some ⟨li,0,none⟩)] w (Rg bad S w d F O):=
 zaw h.i h.dv h.nS h.iS h.nib h.nibS (by have:=h.fl;omega) (fun i a=>h.zs i oM)
theorem LgsY.allC(h:LgsY bad S w li lc lf d base k F O):Calls prog 119 #[.pointer (some ⟨lc,0,none⟩)] w (Rg bad S w d F O):=
 zax h.c h.dv h.nS h.cS h.nib h.nibS (by have:=h.fl;omega) (fun i a=>by have:=h.zs (k+i) oM;rwa[<-qXm]at this)
theorem LgsY.allF(h:LgsY bad S w li lc lf d base k F O):Calls prog 226 #[.pointer (some ⟨lf,0,none⟩)] w (Rg bad S w d F O):=
 zay h.f h.dv h.nS h.fS h.nib h.nibS (by have:=h.fl;omega) (fun i a=>by have:=h.zs (k+k+i) oM;rwa[<-qXm,<-qXm]at this)
theorem LgsY.box(a:LgsY bad S w li lc lf d base k F O)(hu:Upd (fun _=>False) w w'):LgsY bad (fun j=>(S j/\j<w.heap.size)\/w'.heap.size<=j) w' li lc lf d base k F O where
 i:=a.i.keep hu id
 c:=a.c.keep hu id
 f:=a.f.keep hu id
 dv:=(a.dv.kI (T:=fun j=>S j/\j<w.heap.size) (fun j h1 h2=>⟨h1,h2⟩)).keep hu (fun _ _ a=>a)|>.wide (fun j a=> .inl a)
 fl:=a.fl
 nS:=fun j n=> .inr n
 iS:=fun h=>by have:=a.i.lt;have:=hu.size;rcases h with h|h;exact a.iS h.1;omega
 cS:=fun h=>by have:=a.c.lt;have:=hu.size;rcases h with h|h;exact a.cS h.1;omega
 fS:=fun h=>by have:=a.f.lt;have:=hu.size;rcases h with h|h;exact a.fS h.1;omega
 nib:=a.nib.keep hu id
 nibS:=fun h=>by have:=a.nib.lt;have:=hu.size;rcases h with h|h;exact a.nibS h.1;omega
 zs:=a.zs
theorem LgsY.back{w1:World}(h:LgsY bad S w li lc lf d base k F O)(n:Upd (fun _=>False) w w1)(p:Dv (fun a=>(S a/\a<w.heap.size)\/w1.heap.size<=a) w' d F O [])(hu:Upd (fun a=>(S a/\a<w.heap.size)\/w1.heap.size<=a) w1 w'):Dv S w' d F O []/\Upd S w w':=by
 have q:=n.size;exact⟨p.wide (fun a j=>j.elim (fun h=>h.1) (fun j=>h.nS a oM)),(n.mono fE).new hu (fun i s j=>j.elim (fun h=>h.1) (fun j=>oM))⟩
def zds(bad:Prop)(S:Nat->Prop)(w:World)(d:Nat)(F:List Bk)(O:List (Nat×Bk))(v:Int->Value)(e:Ending)(w':World):Prop:=∃cd,(cd=0\/bad/\cd=12)/\e=.returned (v cd)/\Dv S w' d F O []/\Upd S w w'
theorem Zcg191{P:Prop}(h:P:=by
  go_wp2_with fail
  refine n.o.mono ?_;rintro e A ⟨H,D,rfl,p,q⟩;have a:=Y2 p q;clear p q n;rcases D with rfl|⟨E,rfl⟩
  rotate_left
  .go_wp2_with fail
   go_ret
   exact⟨12,.inr ⟨E,rfl⟩,rfl,a.o.1,a.o.2⟩
  go_wp2_with fail
  go_loopg[21] 0 (fun gk G wr=>G=.int .i64 0/\wr=A)
  case atStart=>exact⟨rfl,rfl⟩
  case round=>
   obtain⟨rfl,s⟩:=hrel;rw[s];clear s;go_wp2_with fail
   go_ret
   exact⟨0,.inl rfl,rfl,a.o.1,a.o.2⟩):P:=h
theorem Rj(h:LgsY bad S w li lc lf d base k F O)(m:Value)(v:∃j,m=.map (some j)):Calls prog 160 #[.pointer (some ⟨lc,0,none⟩),m,.func (.func 161) #[] #[]] w (zds bad S w d F O (.int .i64)):=by
 have n:=qqh h.allC;obtain⟨j,rfl⟩:=v;clear h;go_enter func160,ntmps160
 exact Zcg191
theorem Rk(h:LgsY bad S w li lc lf d base k F O)(m:Value)(v:∃j,m=.map (some j)):Calls prog 162 #[.pointer (some ⟨lf,0,none⟩),m,.func (.func 163) #[] #[]] w (zds bad S w d F O (.int .i64)):=by
 have n:=qqh h.allF;obtain⟨j,rfl⟩:=v;clear h;go_enter func162,ntmps162
 exact Zcg191
theorem zaL(s:LgsY bad S w li lc lf d base k F O):Calls prog 93 #[.agg #[.pointer (some ⟨li,0,none⟩),.pointer (some ⟨lc,0,none⟩),.pointer (some ⟨lf,0,none⟩)]] w (zds bad S w d F O (fun M=> .tuple #[.slice none 0 0,.int .i64 M])):=by
 have ar:= @run_makeMap prog;obtain⟨w1,N⟩:=qqe (w.alloc (.cells #[.pointer (some ⟨li,0,none⟩),.pointer (some ⟨lc,0,none⟩),.pointer (some ⟨lf,0,none⟩)] 103));have V:=qqu N;have P:=qqg N;have h1:=s.box V;obtain⟨T,v⟩:∃T:Nat->Prop,T=fun p=>(S p/\p<w.heap.size)\/w1.heap.size<=p:=⟨_,rfl⟩
 rw[<-v]at h1;have ad:¬T w.heap.size:=by rw[v];have:=zd P;rintro(s|s)<;>omega
 have ae:∀p,w1.heap.size<=p->T p:=fun p aj=>by rw[v];exact .inr aj
 have a:=Y7 s V h1 v ad P ae;have ak:=qqh N;have af:=za P 0;have W:=qqh h1.allI;clear s V h1 v ad N P ae;go_enter func93,ntmps93
 go_wp2_with fail
 rw[<-ak.o];refine W.o.mono ?_;rintro e q ⟨M,A,rfl,D,E⟩;rcases A with rfl|⟨G,rfl⟩
 rotate_left
 .have h:=E;have j:=D;rw[a.o.2.2.2.1]at j h;have n:=qqh (a.o.1.back a.o.2.1 j h);clear j h;clear D E W af;go_wp2_with fail
  go_ret2
  exact⟨12,.inr ⟨G,rfl⟩,rfl,n.o.1,n.o.2⟩
 obtain⟨am,H⟩:=qqe (q.alloc (.map #[] 0));have X:Upd T q am:=by rw[H];exact((uur _ q).alloc _)
 have Y:=(a.o.2.2.1.turn E D).turn X (D.new (by rw[H];exact((uur _ q).alloc _)));have Z:=E.trans X;have c1:=za ((Z.block _ (zd a.o.2.2.2.2.2.1) a.o.2.2.2.2.1).trans a.o.2.2.2.2.2.1) 1;have a6:=qqh (Rj Y (.map (some q.heap.size)) ⟨_,rfl⟩);have a7:=Y2 Y Z;have an:=qqh H;rw[H]at c1;clear Y D E X Z W af H;go_wp2_with fail
 rw[<-an.o];refine a6.o.mono ?_;rintro e au ⟨M,A,rfl,Q,J⟩;rcases A with rfl|⟨G,rfl⟩
 rotate_left
 .have h:=a7.o.2.trans J;have j:=Q;rw[a.o.2.2.2.1]at j h;have n:=qqh (a.o.1.back a.o.2.1 j h);clear j h;clear Q J a6 c1;go_wp2_with fail
  go_ret2
  exact⟨12,.inr ⟨G,rfl⟩,rfl,n.o.1,n.o.2⟩
 have ag:=a7.o.1.turn J Q;have a8:=a7.o.2.trans J;have c2:=za ((a8.block _ (zd a.o.2.2.2.2.2.1) a.o.2.2.2.2.1).trans a.o.2.2.2.2.2.1) 2;have aa:=qqh (Rk ag (.map (some q.heap.size)) ⟨_,rfl⟩);have ah:=qqh a8;clear ag Q J a8 a6 c1;go_wp2_with fail
 refine aa.o.mono ?_;rintro e ao ⟨M,A,rfl,L,U⟩;rcases A with rfl|⟨G,rfl⟩
 rotate_left
 .have h:=ah.o.trans U;have j:=L;rw[a.o.2.2.2.1]at j h;have n:=qqh (a.o.1.back a.o.2.1 j h);clear j h;clear L U aa c2;go_wp2_with fail
  go_ret2
  exact⟨12,.inr ⟨G,rfl⟩,rfl,n.o.1,n.o.2⟩
 have ab:=ah.o.trans U;rw[a.o.2.2.2.1]at L ab;have n:=qqh (a.o.1.back a.o.2.1 L ab);clear L U ab aa c2;go_wp2_with fail
 go_loopg[9,38] 0 (fun gk ap aq wr=>ap=.slice none 0 0/\aq=.int .i64 0/\wr=ao)
 case atStart=>exact⟨rfl,rfl,rfl⟩
 case round=>
  obtain⟨rfl,rfl,ai⟩:=hrel;rw[ai];clear ai;go_wp2_with fail
  go_ret2
  exact⟨0,.inl rfl,rfl,n.o.1,n.o.2⟩
end
theorem WB:∃i z,prog.info? 155=some i/\i.zero=some z/\z.cells.size=4/\i.size=4/\i.bytes=32:=by
 have h:(prog.info? 155).map (fun i=>(i.zero.map (·.cells.size),i.size,i.bytes))=some (some 4,4,32):=kR;obtain⟨i,j,a⟩:=qYc.1 h;simp only[qYe]at a;obtain⟨z,n,p⟩:=qYc.1 a.1;exact⟨i,z,j,n,p,a.2.1,a.2.2⟩
theorem qF{g o:Nat}(q:∀a u,(rowC l)[a]?=some u->w.cell? ⟨g,o+a,none⟩=some u)(n:All64 l){k:Nat}(h:k<l.length):w.rangeAt g (o+k*64) (bkC (l.getD k zB)):=by
 intro a s j;have e:l.getD k zB=l[k]:=by rw[qyg,qyk h];rfl
 rw[e]at j;have p:=(qym.1 j).1;rw[zm,n _ (qyv h)]at p;rw[qXm];exact q _ s ((vM n h p).trans j)
def EntsOut(w:World)(l:List Bk)(e:Ending)(w':World):Prop:=
 ∃v,e=.returned (.tuple #[.int .i64 ((if readOk l then readSeq l else 0:Nat):Int),v,.bool (readOk l)])/\Sl w' 155 4 v (if readOk l then readEs l else[]).length ((if readOk l then readEs l else[]).flatMap entC)/\From w.heap.size v/\Below w.heap.size w w'
theorem EntsOut.no{w':World}(a:readOk l=false)(h:Below w.heap.size w w'):EntsOut w l (.returned (.tuple #[.int .i64 0,.slice none 0 0,.bool false])) w':=
 ⟨.slice none 0 0,by rw[a];rfl,by rw[a];exact Sl.nil _ _ _,From.nil _ _ _,h⟩
theorem JZ{b:Bk}(h:okP b=false):(cdP b==0)=false:=by
 unfold okP at h;unfold cdP xu;rw[h];split
 .next h=>cases h
 .split<;>decide
theorem Ea{b:Bk}(h:okP b=true):cdP b=0:=by
 unfold okP at h;unfold cdP xu;rw[h];rfl
theorem qG(l:List Bk)(k:Nat):entsTo l (k+1)=entsTo l k++pgEnts (l.getD k zB):=by simp[entsTo,List.range_succ]
theorem tI{k:Nat}(a:k<l.length)(h:goesP (readSeq l) (readOf l) k (l.getD k zB)=false):readOk l=false:=by
 rw[<-Bool.not_eq_true];intro e;unfold readOk at e;rw[qxo,qxo,qxv]at e;have:=e.2.2 k (qzt.2 a);rw[h]at this;cases this
theorem ZU{l:List Bk}{of:Nat}(h:∀i,i<of->okP (l.getD i zB)=true):∀k,k<=of->(entsTo l k).length<=4*k
 |0,_=>qXp _
 |k+1,a=>by
  rw[qG,qyz];have h1:=ZU h k oM;have h2:=(yF (h k oM)).2.2.2.2;have:(pgEnts (l.getD k zB)).length=pgMany (l.getD k zB):=by simp[pgEnts]
  omega
theorem Zcg19{P:Prop}(h:P:=by
  replace a:gb=true:=a;have aG:=qqh (A.o.1 a);have HS:=Y4 A.o.2.1 A.o.2.2.1 A.o.2.2.2.1 A.o.2.2.2.2;clear a;go_wp2_with (first
   |(at_builtin;refine zJ rfl _ _ 146 rfl bd be 32 underlying146 bf bg bi bj bh de rfl HS.o.1 _ _ (ar.flatMap entC) rfl HS.o.2.1 HS.o.2.2.1 jj jU ?_)
   |fail)
  intro J L N Q U;have q:=qqh (aG.o J L N Q U);clear N Q U;go_wp2_with fail
  go_roundg (gk-1)
  case measure=>have:=s.o.2.2.2.2.2.2.2.2.2.1;omega
  case rel=>exact⟨a1+1,by have:=s.o.2.2.2.2.2.2.2.2.2.1;omega,by go_num,rfl,q.o.1,q.o.2.1,q.o.2.2.1,q.o.2.2.2⟩):P:=h
theorem Eb{v:Value}(bs:Rd w 64 v l.length (rowC l))(G:All64 l)(bt:0<l.length)(co:l.length<=4096)(V:Nib w):Calls prog 274 #[v] w (EntsOut w l):=by
 obtain⟨g,o,cp,rfl,bu,af⟩:=bs.at bt;have aI:=qF af G bt;rw[qYa,qXn]at aI;have ag:∀k,(l.getD k zB).length=64:=fun k=>by
  rw[qyg];cases h:l[k]? with
  |none=>rfl
  |some x=>exact G x (List.mem_of_getElem? h)
 obtain⟨a8,W⟩:=qqe (l.getD 0 zB);have bv:a8.length=64:=by rw[W];exact ag 0
 rw[<-W]at aI;have bV:=qqh (Wy V a8 bv);have cq:(0:Int)<(l.length:Int):=oM;have bW:=zu a8 bv;obtain⟨bX,aZ⟩:=qqe (dsPk [] 0);have aJ:=UY;simp only[<-aZ]at aJ;have av:bX.toArray.size=20:=by rw[aZ,qXi,wy]
 have an:=Y7 af G ag V W aJ av;clear af G ag V W bs aZ av;go_enter func274,ntmps274
 go_wp2
 go_step3
 go_wp2_with (first
  |(refine qYz rfl _ _ rfl _ _ rfl _ _ aI underlying60 rfl bW ?_)
  |fail)
 refine bV.o.mono ?_;rintro e w1 ⟨⟨aK,D,ah,rfl⟩,b0⟩;have bY:aK.length=20/\∀v∈aK,v.oneCell'=true:=by
  cases X:okP a8 with
  |true=>rw[D X];exact⟨vT _,vU _⟩
  |false=>rw[ah X];exact⟨rfl,qxv.1 (by simp[uv,Value.oneCell']:uv.all (·.oneCell')=true)⟩
 obtain⟨aL,aw⟩:=qqe (w1.alloc (.cells aK.toArray 297));have aa:Upd (fun _=>False) w aL:=by rw[aw];exact(uuo b0).alloc _
 have M:=qqg aw;have ai:aL.heap.size=w1.heap.size+1:=by rw[aw];simp
 have hge:=b0.size;have aM:=Y2 aw bY;have ax:=Y4 aa M ai hge;clear aa M ai hge aw b0 aI;obtain⟨P,aN⟩:=qqe (w1.heap.size);rw[<-aN]at ax;go_upto_region 2 with(first
  |(refine zU rfl _ rfl _ aJ ?_)
  |(refine zk rfl _ _ _ rfl _ _ aK rfl rfl (by rw[aM.o.2.1];exact an.o.2.2.2.2.2.2) (by rw[aM.o.2.1];exact vn) aM.o.2.2 ?_)
  |fail)
 rw[<-aM.o.1,<-aN];have cr:=qqh aN;clear aN;cases j:okP a8 with
 |false=>
  have q1:=JZ j;have ay:readOk l=false:=by unfold readOk;rw[<-an.o.2.2.2.2.1,j];rfl
  generalize cdP a8=b1 at*;have n:=qqh ay;have q2:¬b1=0:=by simpa using q1
  clear j ay D ah;go_wp2_with fail
  rw[qxr];exact qYq (v:=.tuple #[.int .i64 0,.slice none 0 0,.bool false]) ou rfl (EntsOut.no n.o (Upd.below ax.o.1))
 |true=>
  have bx:=Ea j;rw[bx];obtain⟨aa,M,ai,hge⟩:=ax.o;rw[D j]at M;obtain⟨ao,c1,c2,bZ,c0⟩:=Wq M j;obtain⟨-,-,Y,Z,-⟩:=yF j;have ap:readOf l=pgOf a8:=by unfold readOf;rw[an.o.2.2.2.2.1]
  have bz:readSeq l=pgSeq a8:=by unfold readSeq;rw[an.o.2.2.2.2.1]
  rw[<-ap]at c2 Y Z;rw[<-bz]at ao;have b2:=Y5 M ao Y Z j;clear M ao c1 bZ c0 ap bz bx D ah j aa ai hge Y Z;by_cases aO:readOf l<=l.length
  .have q2:¬((l.length:Int)<(readOf l:Int)):=oM;go_wp2_with fail
   go_step3
   go_wp2_with fail
   go_loopg[7,8,32] l.length (fun gk bA c3 c4 wr=>∃k:Nat,k+gk=l.length/\c4=.int .i64 (k:Int)/\c3=.bool true/\Sl wr 155 4 bA (entsTo l (min k (readOf l))).length ((entsTo l (min k (readOf l))).flatMap entC)/\From (P+1) bA/\Upd (fun p=>P+1<=p) aL wr/\∀i<k,goesP (readSeq l) (readOf l) i (l.getD i zB)=true)
   case atStart=>exact⟨0,oM,rfl,rfl,by rw[Nat.zero_min];exact Sl.nil _ _ _,From.nil _ _ _,uur _ _,fun i h=>oM⟩
   case round=>
    obtain⟨k,X,rfl,rfl,hsl,a6,E,ab⟩:=hrel;obtain⟨af,G,ag,V,W,bB,av⟩:=an.o;obtain⟨aa,M,ai,hge⟩:=ax.o;obtain⟨bC,ao,Y,Z,j⟩:=b2.o;have bD:∀p,p<=P->¬(P+1<=p):=fun p aP=>oM;have bE:=E.j3 ao (bD _ (qXp _));have bF:=E.j3 c2 (bD _ (qXp _));have a7:Upd (fun p=>w.heap.size<=p) w wr:=(aa.mono fE).trans (E.mono (fun p _ (h:P+1<=p)=>oM));by_cases hlt:k<l.length
    .have c5:(k:Int)<(l.length:Int):=oM;have ct:(0:Int)<=(k:Int):=oM;obtain⟨bk,aQ⟩:=qqe (l.getD k zB);have az:bk.length=64:=by rw[aQ];exact ag k
     have D:=qF af G hlt;rw[<-aQ]at D;have c6:wr.rangeAt g (o+k*64) (bkC bk):=a7.range D oM;have aA:=zu bk az;obtain⟨bG,aR⟩:=qqe (wr.alloc (.cells (bkC bk).toArray 60));have H:=qqu aR;have bH:=qqg aR;have aB:=zg bH;have bI:=H.j3 bE id;have bJ:=H.j3 bF id;have c7:=zx bk;have c8:=qqh aR;have aS:P+1<=wr.heap.size:=by have:=E.size;omega
     have s:=Y11 H hsl a6 E ab a7 V Y Z X aS;obtain⟨cu,b3⟩:=qqe (wr.heap.size);have c9:=qqh b3;have aq:=Y2 aQ W;have cv:(bkC bk).toArray.size=64:=zo _ az;rw[<-b3]at aB;have bK:Below w.heap.size w bG:=(zj (qxl _ w) a7 (qXp _) (fun _ h=>h)).trans ((Upd.below H).mono a7.size);have b4:=qqh bK;clear aR H bH aa M ai hge bC ao Y Z j bE bF D hsl a6 E ab a7 V bB af G ag av aS b3 bK aQ W;go_upto_region 9 with(first
      |(refine qYz rfl _ _ rfl _ _ rfl _ _ c6 underlying60 rfl aA ?_)
      |(refine zk rfl _ _ _ rfl _ _ (bkC bk) rfl rfl (by rw[zm,az];rfl) aA c7 ?_)
      |fail)
     rw[<-c8.o,<-c9.o];by_cases ap:readOf l<=k
     .have a:goesP (readSeq l) (readOf l) k bk=(bk==zB):=by unfold goesP;rw[if_pos ap]
      have cb:((readOf l:Nat):Int)<=(k:Int):=oM;have b5:=fun cc=>rG bk zB az zH cc;obtain⟨aT,aU⟩:=qqe (zB);have bL:=xO aT aU;rw[<-aU]at b5 a;have cx:=qqh aU;clear aU;by_cases aj:bk=aT
      .have b6:(bk==aT)=true:=by simp[aj]
       rw[b6]at b5 a;have cd:=qqh a;clear a aj;go_wp2_with (first
        |(refine qYz rfl _ _ rfl _ _ rfl _ _ aB underlying60 rfl aA ?_)
        |(refine zY rfl rfl bL ?_)
        |fail)
       go_roundg (gk-1)
       case measure=>omega
       case rel=>
        obtain⟨H,hsl,a6,E,ab,a7,V,Y,Z,X,aS⟩:=s.o;refine⟨k+1,oM,by go_num,rfl,?_,a6,E.trans (H.mono fE),fun i ak=>?_⟩
        .rw [Nat.min_eq_right ap]at hsl;rw[Nat.min_eq_right oM];exact hsl.keep H (fun _ _ h=>h)
        .rcases Nat.lt_succ_iff_lt_or_eq.1 ak with h|rfl
         .exact ab i h
         .rw [<-aq.o.1];exact cd.o
      .have b6:(bk==aT)=false:=by simpa using aj
       rw[b6]at b5 a;have n:=qqh (tI hlt (aq.o.1▸a));clear a aj;go_wp2_with (first
        |(refine qYz rfl _ _ rfl _ _ rfl _ _ aB underlying60 rfl aA ?_)
        |(refine zY rfl rfl bL ?_)
        |fail)
       rw[qxr];exact qYq (v:=.tuple #[.int .i64 0,.slice none 0 0,.bool false]) ou rfl (EntsOut.no n.o b4.o)
     .have cb:¬(((readOf l:Nat):Int)<=(k:Int)):=oM;have a:goesP (readSeq l) (readOf l) k bk=(okP bk&&(pgSeq bk==readSeq l&&(pgNo bk==k&&(pgOf bk==readOf l&&(if k+1=readOf l then !(pgMany bk==0&&decide (0<k))else pgMany bk==4))))):=by unfold goesP;rw[if_neg ap]
      have ce:=qqh (Wy (s.o.2.2.2.2.2.2.1.keep (S:=fun p=>w.heap.size<=p) (s.o.2.2.2.2.2.1.trans (s.o.1.mono fE)) (fun h=>by have:=s.o.2.2.2.2.2.2.1.lt;omega)) bk az);go_wp2_with (first
       |(refine qYz rfl _ _ rfl _ _ rfl _ _ aB underlying60 rfl aA ?_)
       |fail)
      refine ce.out.mono ?_;rintro e b7 ⟨⟨aV,D,ah,rfl⟩,b8⟩;have bM:aV.length=20/\∀v∈aV,v.oneCell'=true:=by
       cases X:okP bk with
       |true=>rw[D X];exact⟨vT _,vU _⟩
       |false=>rw[ah X];exact⟨rfl,qxv.1 (by simp[uv,Value.oneCell']:uv.all (·.oneCell')=true)⟩
      obtain⟨am,aC⟩:=qqe (b7.alloc (.cells aV.toArray 297));have ad:Upd (fun _=>False) bG am:=by rw[aC];exact(uuo b8).alloc _
      have aW:=qqg aC;have b9:am.heap.size=b7.heap.size+1:=by rw[aC];simp
      have cy:=ad.j3 bI id;have cz:=ad.j3 bJ id;have aX:=Y2 aC bM;obtain⟨bN,aD⟩:=qqe (b7.heap.size);rw[<-aD]at aW;have ba:Below w.heap.size w am:=b4.o.trans ((Upd.below ad).mono b4.o.size);have ae:=Y5 ba ad b9 aD b8.size;have cf:=qqh aD;clear aC bM b8 ad b9 ba bI bJ aD aB;go_upto_region 13 with(first
       |(refine zU rfl _ rfl _ aJ ?_)
       |(refine zk rfl _ _ _ rfl _ _ aV rfl rfl (by rw[aX.o.2.1];exact an.o.2.2.2.2.2.2) (by rw[aX.o.2.1];exact vn) aX.o.2.2 ?_)
       |fail)
      rw[<-aX.o.1,<-cf.o];cases j:okP bk with
      |false=>
       have ch:=JZ j;rw[j]at a;have n:=qqh (tI hlt (aq.o.1▸a));generalize cdP bk=b1 at*;have ci:¬b1=0:=by simpa using ch
       clear j a D ah;go_wp2_with fail
       rw[qxr];exact qYq (v:=.tuple #[.int .i64 0,.slice none 0 0,.bool false]) ou rfl (EntsOut.no n.o ae.o.1)
      |true=>
       rw[Ea j];rw[D j]at aW;obtain⟨cA,cB,cC,cD,bb⟩:=Wq aW j;rw[j,qxp]at a;have cE:=(yF j).2.2.2.2;have aY:(pgEnts bk).length=pgMany bk:=by simp[pgEnts]
       obtain⟨ar,bc⟩:=qqe (pgEnts bk);rw[<-bc]at bb aY;have cj:=qqh bc;generalize pgSeq bk=a0 at*;generalize pgNo bk=a1 at*;generalize pgOf bk=a2 at*;generalize pgMany bk=a3 at*;clear D ah j aW bc;have bO:goesP (readSeq l) (readOf l) k bk=false->readOk l=false:=fun h=>tI hlt (aq.o.1▸h);have bP:goesP (readSeq l) (readOf l) k bk=true->∀J L,Sl L 155 4 J ((entsTo l k).length+a3) ((entsTo l k).flatMap entC++ar.flatMap entC)->Upd (ownS u7) am L->blockFrom am u7 J->
         Sl L 155 4 J (entsTo l (min (k+1) (readOf l))).length ((entsTo l (min (k+1) (readOf l))).flatMap entC)/\From (P+1) J/\Upd (fun p=>P+1<=p) aL L/\∀i<k+1,goesP (readSeq l) (readOf l) i (l.getD i zB)=true:=by
        intro bu J L N Q U;obtain⟨H,hsl,a6,E,ab,a7,V,Y,Z,X,aS⟩:=s.o;obtain⟨ba,ad,b9,aD,cF⟩:=ae.o;refine⟨?_,U.ge (by have:=H.size;have:=ad.size;omega) a6,(E.trans (((H.trans ad).mono fE))).trans (Q.mono (fun p _ aP=>a6 p aP)),fun i ak=>?_⟩
        .rw [Nat.min_eq_left oM,qG,qyz,qye,<-aq.o.1,<-cj.o,aY];exact N
        .rcases Nat.lt_succ_iff_lt_or_eq.1 ak with h|rfl
         .exact ab i h
         .rw [<-aq.o.1];exact bu
       have bQ:Sl am 155 4 u7 (entsTo l k).length ((entsTo l k).flatMap entC):=by
        have:=s.o.2.1;rw[Nat.min_eq_left oM]at this;exact this.keep (s.o.1.trans ae.o.2.1) (fun _ _ h=>h)
       have bR:(entsTo l k).length<=4*k:=by
        refine ZU (of:=k) (fun i ak=>?_) k (qXp _);have:=s.o.2.2.2.2.1 i ak;unfold goesP at this;rw[if_neg oM]at this;exact(qxo _ _▸this).1
       have bS:Rd am 4 (.slice (some ⟨bN,4,none⟩) a3 a3) a3 (ar.flatMap entC):=by
        refine⟨by rw[wn,aY],by unfold maxLen;omega,some ⟨bN,4,none⟩,a3,rfl,(fun h=>by cases h),(fun b cl=>?_)⟩;cases cl;intro p u aP;rw[qxa];exact bb p u aP
       have bT:∀u∈ar.flatMap entC,u.oneCell'=true:=fun u E=>by
        obtain⟨x,-,hx⟩:=qzq.1 E;exact XG x u hx
       have cG:1<=readOf l/\readOf l<=256:=⟨b2.o.2.2.1,b2.o.2.2.2.1⟩
       obtain⟨bd,be,bf,bg,bh,bi,bj⟩:=WB;have A:=Y5 bP bQ bS bT bR;have aE:=qqh bO;clear bO bP bQ bS bT bR bb aY;generalize goesP (readSeq l) (readOf l) k bk=gb at*;generalize readSeq l=bn at*;generalize readOf l=bp at*;by_cases bq:a0=bn
       .subst bq;by_cases h1:a1=k
        .subst h1;by_cases h2:a2=bp
         .subst h2;simp only[beq_self_eq_true,qxp]at a;by_cases G:a1+1=a2
          .subst G;rw[if_pos rfl]at a;by_cases aF:a3=0
           .subst aF;by_cases bU:0<a1
            .have au:((0:Nat):Int)<(a1:Int):=oM;have n:=qqh (aE.o (by rw[a,qYs bU];rfl));clear a;go_wp2_with fail
             rw[qxr];exact qYq (v:=.tuple #[.int .i64 0,.slice none 0 0,.bool false]) ou rfl (EntsOut.no n.o ae.o.1)
            .have au:¬((0:Nat):Int)<(a1:Int):=oM;rw[decide_eq_false bU]at a;replace a:gb=true:=a;have aG:=qqh (A.o.1 a);have HS:=Y4 A.o.2.1 A.o.2.2.1 A.o.2.2.2.1 A.o.2.2.2.2;clear a;go_wp2_with (first
              |(at_builtin;refine zJ rfl _ _ 146 rfl bd be 32 underlying146 bf bg bi bj bh de rfl HS.o.1 _ _ (ar.flatMap entC) rfl HS.o.2.1 HS.o.2.2.1 jj jU ?_)
              |fail)
             intro J L N Q U;have q:=qqh (aG.o J L N Q U);clear N Q U;go_wp2_with fail
             go_roundg (gk-1)
             case measure=>have:=s.o.2.2.2.2.2.2.2.2.2.1;omega
             case rel=>exact⟨a1+1,by have:=s.o.2.2.2.2.2.2.2.2.2.1;omega,by go_num,rfl,q.o.1,q.o.2.1,q.o.2.2.1,q.o.2.2.2⟩
           .have au:¬((a3:Nat):Int)=0:=oM;have cH:(0:Int)<=(a3:Int):=oM;have cI:(a3:Int)<=4:=oM;rw[show(a3==0)=false by simpa using aF]at a;exact Zcg19
          .rw [if_neg G]at a;have ci:¬((a1:Nat):Int)=(a2:Int)-1:=oM;by_cases aF:a3=4
           .subst aF;exact Zcg19
           .have au:¬((a3:Nat):Int)=4:=oM;have n:=qqh (aE.o (by rw[a];simpa using aF));clear a;go_wp2_with fail
            rw[qxr];exact qYq (v:=.tuple #[.int .i64 0,.slice none 0 0,.bool false]) ou rfl (EntsOut.no n.o ae.o.1)
         .have au:¬((a2:Nat):Int)=(bp:Int):=oM;have aH:(a2==bp)=false:=by simpa using h2
          simp only[beq_self_eq_true,qxp]at a;rw[aH]at a;have n:=qqh (aE.o a);clear a;go_wp2_with fail
          rw[qxr];exact qYq (v:=.tuple #[.int .i64 0,.slice none 0 0,.bool false]) ou rfl (EntsOut.no n.o ae.o.1)
        .have au:¬((a1:Nat):Int)=(k:Int):=oM;have aH:(a1==k)=false:=by simpa using h1
         simp only[beq_self_eq_true,qxp]at a;rw[aH]at a;have n:=qqh (aE.o a);clear a;go_wp2_with fail
         rw[qxr];exact qYq (v:=.tuple #[.int .i64 0,.slice none 0 0,.bool false]) ou rfl (EntsOut.no n.o ae.o.1)
       .have au:¬((a0:Nat):Int)=(bn:Int):=oM;have aH:(a0==bn)=false:=by simpa using bq
        rw[aH]at a;have n:=qqh (aE.o a);clear a bq;go_wp2_with fail
        rw[qxr];exact qYq (v:=.tuple #[.int .i64 0,.slice none 0 0,.bool false]) ou rfl (EntsOut.no n.o ae.o.1)
    .obtain rfl:k=l.length:=oM;have c5:¬((l.length:Int)<(l.length:Int)):=oM;have br:readOk l=true:=by
      unfold readOk;rw[<-W,j,qYs aO,qxp,qxp,qxv];exact fun i ak=>ab i (qzt.1 ak)
     rw[Nat.min_eq_right aO]at hsl;have aj:EntsOut w l (.returned (.tuple #[.int .i64 (readSeq l:Int),u7,.bool true])) wr:=
      ⟨u7,by rw[br];rfl,by rw[br];exact hsl,a6.mono oM,zj (qxl _ w) a7 (qXp _) (fun _ h=>h)⟩
     have q:=qqh aj;clear aj br hsl a6 E ab a7 af G ag V W bB av aa M ai hge bC Y Z j;go_wp2_with fail
     try rw[qxr]
     exact qYq (v:=.tuple #[.int .i64 (readSeq l:Int),u7,.bool true]) ou rfl q.o
  .have q2:((l.length:Int)<(readOf l:Int)):=oM;have ay:readOk l=false:=by unfold readOk;rw[decide_eq_false aO];simp
   have n:=qqh ay;clear ay aO;go_wp2_with fail
   rw[qxr];exact qYq (v:=.tuple #[.int .i64 0,.slice none 0 0,.bool false]) ou rfl (EntsOut.no n.o (Upd.below ax.o.1))
end Go.Proofs.YtpejdgiccaijfaaGreatDoor
