/- See FormG2. A -/
import Derived.Test.YtbnpkobbnjihjaaGreatDoorG11
set_option maxRecDepth 100000
set_option maxHeartbeats 4000000
namespace Go.Proofs.YtbnpkobbnjihjaaGreatDoor
open Go Go.RowKit Tryz
variable{w:World}{own:Nat->Nat}{c base n cov next:Nat}{p:CaP}{W:List (Nat×Bk)}
abbrev recC(a0 a1 a2 a3 a4:Int)(d:Bool)(a6:Int):List Value:=[.int .i64 a0,.int .i64 a1,.int .i64 a2,.int .i64 a3,.int .i64 a4,.bool d,.int .i64 a6]
abbrev recX(a0 a1 a2 a3 a4:Int)(d:Bool)(a6:Int):List Int:=[a0,a1,a2,a3,a4,(bitN d:Int),a6]
theorem zfr(a0 a1 a2 a3 a4:Int)(d:Bool)(D:Int)(w:World):Calls prog 305 #[.agg (recC a0 a1 a2 a3 a4 d D).toArray] w (zS w 7 (recX a0 a1 a2 a3 a4 d D)):=by
 obtain⟨b,hL⟩:=qqe ((recC a0 a1 a2 a3 a4 d D).toArray);have j:=zc w (.cells b 273) rfl;have H:(w.alloc (.cells b 273)).cell? ⟨w.heap.size,0,none⟩=some (.int .i64 a0):=(za j 0).trans oS;have c1:(w.alloc (.cells b 273)).cell? ⟨w.heap.size,1,none⟩=some (.int .i64 a1):=(za j 1).trans oS;have c2:(w.alloc (.cells b 273)).cell? ⟨w.heap.size,2,none⟩=some (.int .i64 a2):=(za j 2).trans oS;have J:(w.alloc (.cells b 273)).cell? ⟨w.heap.size,3,none⟩=some (.int .i64 a3):=(za j 3).trans oS;have K:(w.alloc (.cells b 273)).cell? ⟨w.heap.size,4,none⟩=some (.int .i64 a4):=(za j 4).trans oS;have L:(w.alloc (.cells b 273)).cell? ⟨w.heap.size,5,none⟩=some (.bool d):=(za j 5).trans oS;have M:(w.alloc (.cells b 273)).cell? ⟨w.heap.size,6,none⟩=some (.int .i64 D):=(za j 6).trans oS;rw[<-hL];have N:Below w.heap.size w (w.alloc (.cells b 273)):=(qxl _ _).alloc (qXp _) _;have O:=qqh N;clear j hL N;go_enter func305,ntmps305
 go_wp2
 generalize w.alloc (.cells b 273)=w1 at*;obtain⟨m,F⟩:=qqe (w.heap.size);rw[<-F]at H c1 c2 J K L M⊢;have V:=qqh F;clear F;refine qZd (S:=fun W=>W.cell? ⟨m,0,none⟩=some (.int .i64 a0)/\W.cell? ⟨m,1,none⟩=some (.int .i64 a1)/\W.cell? ⟨m,2,none⟩=some (.int .i64 a2)/\W.cell? ⟨m,3,none⟩=some (.int .i64 a3)/\W.cell? ⟨m,4,none⟩=some (.int .i64 a4)/\W.cell? ⟨m,5,none⟩=some (.bool d)/\W.cell? ⟨m,6,none⟩=some (.int .i64 D)) kR (by(simp only[qYi]);exact⟨H,c1,c2,J,K,L,M⟩) (fun G=>?_);refine Wl.i [0,1,2,3,4,5,6,7,8,9,10,11,13,14] ?_;iterate 14 refine Wl.t G ?_
 refine Wl.o ?_;refine Wl.r 12 (fun E v=>?_);go_simp
 refine(UG d _).mono ?_;rintro e U ⟨rfl,Q⟩;rw[<-Q];clear Q U;refine v.o _ _ (G) (fun A=>?_);clear v E;refine Wl.r 15 (fun E v=>?_);go_simp
 refine v.o _ _ (⟨zl A.1 _,zl A.2.1 _,zl A.2.2.1 _,zl A.2.2.2.1 _,zl A.2.2.2.2.1 _,zl A.2.2.2.2.2.1 _,zl A.2.2.2.2.2.2 _⟩) (fun T=>?_);clear v E;refine Wl.r 16 (fun E v=>?_);go_simp
 refine v.o _ _ (T) (fun X=>?_);clear v E;refine Wl.d ?_;clear G A T;go_wp2
 go_ret
 refine⟨w1.heap.size,7,rfl,qXp _,by unfold maxLen;omega,zf (zc w1.drew _ rfl),?_⟩;exact(zN O.o 1).alloc O.o.size _
attribute [local go_sem↓] ZO Vf qX ZP Go.wp_at_zero Go.wp_at_succ
theorem zce{S:Nat->Prop}{j d:Nat}(h:Jn S w j d base n cov next W):
  Calls prog 347 #[.pointer (some ⟨j,0,none⟩)] w fun e w'=>e=.returned (.int .i64 ((n:Int)-((next:Int)-1-(cov:Int))))/\Upd (fun _=>False) w w':=by
 obtain⟨E,h,-⟩:=h;obtain⟨-,-,c2,F,G,-⟩:=h.c;obtain⟨-,-,b,v,A,D,-⟩:=h.good;have q1:IntKind.i64.wrap ((next:Int)-1)=(next:Int)-1:=qxt _ oM;have q2:IntKind.i64.wrap ((next:Int)-1-(cov:Int))=(next:Int)-1-(cov:Int):=qxt _ oM;have H:IntKind.i64.wrap ((n:Int)-((next:Int)-1-(cov:Int)))=(n:Int)-((next:Int)-1-(cov:Int)):=qxt _ oM;clear h b v A D;go_enter func347,ntmps347
 go_wp2
 go_quiet(fail)
 go_wp2
 go_ret
 exact⟨rfl,(uur _ _).drewN nq⟩
theorem vt{g i k:Nat}{v u:Value}(b:w.cell? ⟨g,i,none⟩=some v)(h:¬k=i):(w.setCell ⟨g,k,none⟩ u).cell? ⟨g,i,none⟩=some v:=by
 rw[World.cell?_setCell_other _ _ _ _ (fun e=>h (congrArg Addr.off e)),b]
abbrev jaddX(next n:Nat)(op block slot:Int)(d:Bool)(sum:Int):List Int:=recX (next:Int) (((next-1)/n:Nat):Int) op block slot d sum
theorem JnGood.add(h:JnGood base n cov next W)(j:next<=cov+n)(v:next<=1099511627776){y:Bk}(hy:y.length=64):JnGood base n cov (next+1) (W++[(next,y)]):=
 ⟨fun p b=>by rcases qzl.1 b with h1|h1;exact h.w64 p h1;simp at h1;subst h1;exact hy,
  fun p b=>by rcases qzl.1 b with h1|h1;have:=h.lt p h1;omega;simp at h1;subst h1;simp,
  h.n1,by have:=h.wl;simp;omega,oM,oM,h.bs⟩
def zaG(S:Nat->Prop)(w:World)(j d base n cov next:Nat)(W:List (Nat×Bk))(y:Bk)(e:Ending)(w':World):Prop:=
 e=.returned (.tuple #[.int .i64 (next:Int),.int .i64 0])/\Jn S w' j d base n cov (next+1) (W++[(next,y)])/\Upd S w w'
theorem Zcg14{P:Prop}(h:P:=by
  go_simp
  refine b.o _ _ ((by(go_split_ands;(simp only[qYk,qYi]at*);((repeat' constructor)<;>first|assumption|(apply zl;assumption)|(refine zt ?_ ?_<;>assumption)|(refine zE ?_ ?_<;>assumption)|(apply qYj;assumption)|(apply qYn;assumption))))) (fun aE=>?_);clear b A;refine Wl.r 12 (fun A b=>?_);refine zQ rfl _ _ _ rfl rfl rfl aR ?_;refine b.o _ _ (⟨aD,aV⟩) (fun ad=>?_);clear b A;refine Wl.i [13,14] ?_;iterate 2 refine Wl.t ad ?_
  refine Wl.o ?_;refine Wl.r 15 (fun A b=>?_);go_simp
  refine b.o _ _ (⟨vt ad.1 de,zE ad.2 bA⟩) (fun _=>?_);clear b A;refine Wl.d ?_;clear ai aE ad aa b7 z5 ao aU aF bu b9 ba bv bx aD aV bB bC aR b8 ab;obtain⟨E,v,F,D,X,U,V,Y,ak⟩:=aW.o;have aG:(W++[(next,y)]).length=W.length+1:=oe;rw[aG]at D E;obtain⟨u,Z⟩:∃u:Value,u=.slice aS (W.length+1) aT:=⟨_,rfl⟩
  rw[<-Z]at D E;obtain⟨J,ae⟩:=qqe (aB.setCell ⟨j,5,none⟩ (.slice aS (W.length+1) aT));rw[<-ae];have K:Upd (fun k=>k=j) aB J:=by rw[ae];exact zi _ _ _ _
  have L:J.heap[j]?=some (.cells #[.pointer (some ⟨d,0,none⟩),.int .i64 base,.int .i64 n,.int .i64 cov,.int .i64 next,u] 285 (0,0)):=by rw[ae,Z];exact(zh X 5 _).trans oe
  have c3:J.cell? ⟨j,4,none⟩=some (.int .i64 (next:Int)):=za L 4;have z4:=zg L 4;have ap:¬m=j:=fun e=>az e.symm;have aH:=(K.block m (qXs (zd V) (qXr v.size F.size)) ap).trans ((F.block m (qXs (zd V) v.size) (fun e=>by have:=Y m e;have:=ah.o.2.2.2;omega)).trans (v.jV V));have c4:(J.setCell ⟨j,4,none⟩ (.int .i64 ((next:Int)+1))).cell? ⟨m,0,none⟩=some (.int .i64 (next:Int)):=zt (za aH 0) (fun e=>ap e.symm);have aZ:IntKind.i64.wrap ((next:Int)+1)=(next:Int)+1:=qxt _ oM;have bc:=Y5 D E K L Z;clear E v F D X U V Y ak aG Z ae K L aH ap;go_wp2
  go_ret2
  obtain⟨D,E,K,L,Z⟩:=bc.o;obtain⟨-,v,F,-,-,U,-,Y,ak⟩:=aW.o;obtain⟨h,G,M,-⟩:=a6.o;have aq:Upd S w aj:=((ah.o.2.2.1.mono fE).trans (T.o.2.2.1.mono (fun k _ e=>M k (by rw[e,ah.o.2.2.2];exact qXp _)))).trans (U.mono fE);have bd:Upd S w aB:=aq.trans ((v.mono fE).trans (F.mono (fun k _ H=>G k (.inr H))));have ar:u.ownBlock≠some j:=fun e=>by
   rcases E with h1|⟨g,h1,be⟩
   .exact h.wb (by rw[<-h1];exact e)
   .rw [h1]at e;cases e;have:=zd h.str;have:=aq.size;have:=v.size;omega
  have aI:Upd (fun k=>k=j) J (J.setCell ⟨j,4,none⟩ (.int .i64 ((next:Int)+1))):=zi _ _ _ _;have bf:sectR (jaddX next n op N slot O Q)=y:=by rw[T.o.2.2.2.2.2.1,b0.out]
  rw[bf];refine⟨rfl,⟨u,⟨(zh L 4 _).trans oe,?_,ar,h.good.add a6.o.2.2.2.2.2.1 aX T.o.2.2.2.2.2.2⟩,?_⟩,bd.trans ((K.trans aI).mono (fun k _ e=>e▸G j (.inl rfl)))⟩
  .rw [qyy];exact(D.kA K ar).kA aI ar
  .rintro k (rfl|H)
   .exact G _ (.inl rfl)
   .rcases E with h1|⟨g,h1,be⟩
    .exact G _ (.inr (by rw[<-h1];exact H))
    .rw [h1]at H;cases H;exact M _ (by have:=aq.size;have:=v.size;omega)):P:=h
theorem zha{S:Nat->Prop}{j d:Nat}(h:Jn S w j d base n cov next W)(M:∀k,w.heap.size<=k->S k)(af:Nib w)(au:¬S 1)(av:next<=cov+n)(aX:next<=1099511627776)
  (a0 a1 op N slot:Int) (O:Bool) (Q:Int) (am:mayR (jaddX next n op N slot O Q)=true):
  Calls prog 355 #[.pointer (some ⟨j,0,none⟩),.agg (recC a0 a1 op N slot O Q).toArray] w (zaG S w j d base n cov next W (sectR (jaddX next n op N slot O Q))):=by
 obtain⟨aJ,h,G⟩:=h;have aC:=h.good;obtain⟨w1,aK⟩:=qqe (w.alloc (.cells (recC a0 a1 op N slot O Q).toArray 273));have ag:=qqu aK;have an:=qqg aK;have bg:=qqh (zce (S:=jnS j aJ) ⟨aJ,h.new ag,fun _ h=>h⟩);have c5:((n:Int)-((next:Int)-1-(cov:Int))==0)=false:=by have:=aC.wl;simp;omega
 have c6:¬(n:Int)-((next:Int)-1-(cov:Int))=0:=by have:=aC.wl;omega
 have aD:¬1099511627776<(next:Int):=oM;have c7:=aC.n1;have c8:1<=next:=by have:=aC.wl;omega
 have a6:=Y10 h G M af au av aX am ag an;have bD:=qqh aK;clear h G M af au av am ag an aK aC;go_enter func355,ntmps355
 go_wp2_with fail
 rw[<-bD.o];refine bg.out.mono ?_;rintro e aw ⟨rfl,aY⟩;obtain⟨h,G,M,af,au,av,-,am,ag,an⟩:=a6.o;have ax:=ag.trans aY;have h2:=h.new ax;have a7:=aY.jV an;obtain⟨-,-,c2,-,ao,-⟩:=h2.c;obtain⟨m,ay⟩:=qqe (w.heap.size);have az:¬j=m:=by have:=zd h.str;omega
 rw[<-ay]at a7;have bE:aw.cell? ⟨m,0,none⟩=some (.int .i64 a0):=za a7 0;have bF:aw.cell? ⟨m,1,none⟩=some (.int .i64 a1):=za a7 1;have bG:=zg a7 0;have bH:=zg a7 1;have ah:=Y4 h2 a7 ax ay;have aZ:IntKind.i64.wrap ((next:Int)-1)=(next:Int)-1:=qxt _ oM;obtain⟨a8,aL⟩:=qqe ((next-1)/n);have bI:a8<=next-1:=by rw[aL];exact Nat.div_le_self _ _
 have bJ:IntKind.i64.wrap (((next:Int)-1).tdiv (n:Int))=(a8:Int):=by
  rw[show(next:Int)-1=((next-1:Nat):Int) by omega,<-Int.ofNat_tdiv,<-aL];exact qxt _ oM
 have bK:¬n=0:=oM;have aM:=zh a7 0 (.int .i64 (next:Int));have bL:(aw.setCell ⟨m,0,none⟩ (.int .i64 (next:Int))).cell? ⟨m,1,none⟩=some (.int .i64 a1):=za aM 1;have bM:=zg aM 1;have b0:=qqh aL;have bh:=zi aw m 0 (.int .i64 (next:Int));have bi:=Y2 aM bh;rw[<-ay];clear aL bI aM bh;clear h G M af au av am ag an ax h2 a7 aY ay bg;go_upto_region 7 with fail
 refine qZd (S:=fun W=>W.cell? ⟨j,2,none⟩=some (.int .i64 (n:Int))/\W.cell? ⟨j,4,none⟩=some (.int .i64 (next:Int))) kR (by(simp only[qYi]);exact⟨c2,ao⟩) (fun aa=>?_);refine Wl.i [0,1,2,3,4,5,6,7,8,9,10,11,12,13,14] ?_;iterate 15 refine Wl.t aa ?_
 refine Wl.o ?_;refine Wl.r 15 (fun A b=>?_);go_simp
 refine b.o _ _ (⟨zt aa.1 (fun e=>az e.symm),zt aa.2 (fun e=>az e.symm)⟩) (fun ai=>?_);clear b A;refine Wl.i [16] (Wl.t ai (Wl.o ?_));refine Wl.r 17 (fun A b=>?_);go_simp
 refine b.o _ _ (⟨zt ai.1 (fun e=>az e.symm),zt ai.2 (fun e=>az e.symm)⟩) (fun aE=>?_);clear b A;refine Wl.d ?_;clear aa ai aE c2 ao bE bF bG bH aZ bJ bK bL bM;obtain⟨b1,aN⟩:=qqe (((aw.setCell ⟨m,0,none⟩ (.int .i64 (next:Int))).setCell ⟨m,1,none⟩ (.int .i64 (a8:Int))).drew);rw[<-aN];have aO:Upd (fun k=>k=m) aw b1:=by rw[aN];exact(bi.o.2.trans (zi _ m 1 _)).drew
 have b2:b1.heap[m]?=some (.cells (recC (next:Int) (a8:Int) op N slot O Q).toArray 273 (0,0)):=by
  rw[aN];exact(((uur (fun _=>False) _).drew).jV (zh bi.o.1 1 (.int .i64 (a8:Int)))).trans oe
 obtain⟨h,G,M,af,au,av,-,am,ag,an⟩:=a6.o;obtain⟨h2,a7,ax,ay⟩:=ah.o;have b3:∀k,jnS j aJ k->¬k=m:=fun k H e=>by have:=h.slt k H;omega
 have bj:=h2.keep aO b3;have bk:Nib b1:=(af.keep ax id).keep aO (fun e=>by have:=af.lt;omega);obtain⟨y,hy⟩:=qqe (sectR (recX (next:Int) (a8:Int) op N slot O Q));have ab:y.length=64:=by rw[hy];exact tG rfl
 have bN:=qqh (SV bk (recC (next:Int) (a8:Int) op N slot O Q) rfl (recX (next:Int) (a8:Int) op N slot O Q) rfl (fun W=>zfr _ _ _ _ _ _ _ W));have bl:mayR (recX (next:Int) (a8:Int) op N slot O Q)=true:=by rw[b0.out];exact am
 have bn:=zf b2;have T:=Y7 bj b2 aO b3 bl hy ab;clear h G M af au av am ag an h2 a7 ax ay b3 bj bk bl hy aN aO b2;go_wp2_with (first
  |(refine qZa rfl _ _ rfl _ _ rfl _ _ bn underlying273 rfl (by rw[show(recC (next:Int) (a8:Int) op N slot O Q).length=7 from rfl];exact infoThR) ?_)
  |fail)
 refine bN.o.mono ?_;rintro e b4 ⟨aP,bo⟩;obtain rfl:e=.returned (.tuple #[.agg (bkC y).toArray,.int .i64 0]):=by
  rcases aP with⟨-,aP⟩|⟨bp,-⟩
  .rw [aP,T.o.2.2.2.2.2.1]
  .rw [T.o.2.2.2.2.1]at bp;cases bp
 have b5:=qqb bo;obtain⟨aj,aQ⟩:=qqe (b4.alloc (.cells (bkC y).toArray 54));have bq:=qqu aQ;have br:=qqg aQ;have U:=b5.trans bq;have b6:=T.o.1.new U;have ab:=T.o.2.2.2.2.2.2;have bO:=qqh (zv y ab);have bP:=qqh (zu y);have bQ:Hid ((bkC y).length=64):=by show _=_;rw[zn,ab]
 obtain⟨i,z,bR,bS,bT,bU,bV⟩:=xP;have v:Upd (fun _=>False) aj (aj.alloc (.cells (wrC (next:Int) y).toArray 338)).drew:=((uur _ _).alloc _).drew;have aA:=b6.new v;have bs:Rd (aj.alloc (.cells (wrC (next:Int) y).toArray 338)).drew 65 (.slice (some ⟨aj.heap.size,0,none⟩) 1 1) 1 (wrC (next:Int) y):=
  Rd.keep (Rd.fresh aj (wrC (next:Int) y) 338 1 (by rw[wrC_len,ab]) oh) ((uur (fun _=>False) _).drew) (fun _ _ h=>h)
 have bW:W.length<=1024:=by have:=a6.o.1.good;have:=this.wl;have:=a6.o.2.2.2.2.2.1;omega
 obtain⟨c9,aB,aR,D,F,E⟩:=yy 283 283 i z 72 underlying283 bR bS bU bV bT de aA.ws bs (uw (next:Int) y) oh oM;rw[<-YR]at D;have bt:W.length+1=(W++[(next,y)]).length:=oe;rw[bt]at D;obtain⟨aS,aT,rfl⟩:=D.rd.jW;have X:=(F.block j (zd aA.str) (fun e=>aA.wb e)).trans aA.str;have b7:=za X 5;have z5:=zg X 5;have b8:=za X 4;simp at b8 b7;obtain⟨-,-,-,-,ao,aU⟩:=b6.c;have V:=U.jV T.o.2.1;have aF:=zf br;have bu:=Qb (next:Int) y ab;have b9:=underlying54;have ba:=zv y ab;have bv:(bkC y).length=64:=by rw[zn,ab]
 have bx:=zu y;obtain⟨bz,bb⟩:=qqe (b4.heap.size);rw[<-bb]at aF br;have Y:∀g,aJ.ownBlock=some g->g<w.heap.size:=fun g bX=>a6.o.1.ws.lt bX;have bY:=ah.o.2.2.2;have ak:w.heap.size<b4.heap.size:=by
  have h1:=zd T.o.2.1;have h2:=b5.size;omega
 have aD:=F.jU (zl ao _) (fun e=>aA.wb e);have aV:=F.range (qYj aF _) (fun e=>by have:=Y _ e;omega);have bA:¬j=bz:=by have:=zd a6.o.1.str;omega
 have bB:=zl aU (.cells (wrC (next:Int) y).toArray 338);have bC:=World.new_ne aj _ aU;have aW:=Y9 E v F D X U V Y ak;have bZ:=qqh aQ;have c0:=qqh bb;clear E v F D X U V Y ak aA bs bo aP b5 bq b6 aQ bn bt bY bb bW;go_wp2_with (first
  |(refine zk rfl _ _ _ rfl _ _ _ rfl rfl (by rw[bQ.out];rfl) bO.out bP.out ?_)
  |fail)
 rw[<-bZ.o,<-c0.o];refine qZd (S:=fun W=>W.cell? ⟨j,4,none⟩=some (.int .i64 (next:Int))/\W.rangeAt bz 0 (bkC y)) kR (⟨by rw[qYi];exact ao,by rw[qYk];exact aF⟩) (fun aa=>?_);refine Wl.i [0,1,2,3,5,6,7,8] ?_;iterate 8 refine Wl.t aa ?_
 refine Wl.o ?_;refine Wl.l 9 (fun w h=>h.2) b9 ba aa ?_;refine Wl.i [10] (Wl.t aa (Wl.o ?_));refine qYy (rs:=[4,11]) kR oe ?_;refine qxb rfl (fun A b=>?_) (qxb rfl (fun A b=>?_) qxc)
 .go_simp
  refine b.o _ _ ((by(go_split_ands;(simp only[qYk,qYi]at*);((repeat' constructor)<;>first|assumption|(apply zl;assumption)|(refine zt ?_ ?_<;>assumption)|(refine zE ?_ ?_<;>assumption)|(apply qYj;assumption)|(apply qYn;assumption))))) (fun ai=>?_);clear b A;refine Wl.r 11 (fun A b=>?_);exact Zcg14
 .go_simp
  refine b.o _ _ ((by(go_split_ands;(simp only[qYk,qYi]at*);((repeat' constructor)<;>first|assumption|(apply zl;assumption)|(refine zt ?_ ?_<;>assumption)|(refine zE ?_ ?_<;>assumption)|(apply qYj;assumption)|(apply qYn;assumption))))) (fun ai=>?_);clear b A;refine Wl.r 4 (fun A b=>?_);exact Zcg14
theorem Did.step2{w':World}{t s q:Nat}(v:∀b,w.heap.size<=b->own b=0)(E:t≠0)(A:t<16)(F:s≠0)(G:s<16)(H:own q=s)(D:Upd (fun b=>(own b=t\/w.heap.size<=b)\/b=q) w w'):Did own (grow own t w.heap.size w'.heap.size) w w' where
 upd:=D.mono (fun b j h=>by rcases h with(h|h)|h;exact h▸⟨E,A⟩;omega;subst h;rw[H];exact⟨F,G⟩)
 old:=fun b j=>zw j
 new:=fun b j=>by
  unfold grow;split
  .exact A
  .rw [v b j];decide
 far:=fun b j=>by
  have:=D.size;unfold grow;rw[if_neg oM];exact v b oM
section
variable{R:(Nat->Prop)->World->Prop}{own:Nat->Nat}{w w':World}{t s k q:Nat}
theorem Thing.other2(v:Thing R)(D:R (fun b=>own b=k) w)(E:k≠t)(F:k≠s)(G:own q=s)(H:Upd (fun b=>(own b=t\/w.heap.size<=b)\/b=q) w w'):R (fun b=>grow own t w.heap.size w'.heap.size b=k) w':=by
 have h1:R (fun b=>own b=k/\b<w.heap.size) w:=v.out D (fun b A h=>⟨h,A⟩);have h2:=v.keep h1 H (fun b h j=>by rcases j with(j|j)|j;exact E (h.1.symm.trans j);omega;subst j;exact F (h.1.symm.trans G));exact v.out h2 (fun b A h=>by rw[zw h.2];exact h.1)
end
section
variable{own:Nat->Nat}{w w':World}{c:Nat}{n:CaN}{p:CaP}{a:CaS}
theorem CaAt.jrOwn(b:CaAt own w c n p a):own p.jr=4/\p.jr<w.heap.size:=by
 obtain⟨v,h,j⟩:=b.jr;exact⟨j _ (.inl rfl),zd h.str⟩
theorem CaAt.turn24(h:CaAt own w c n p a){F:List Bk}{O:List (Nat×Bk)}{P:List Int}(j:Upd (fun v=>(own v=2\/w.heap.size<=v)\/v=p.jr) w w')(D:Dv (fun v=>own v=2\/w.heap.size<=v) w' p.ssd F O P)(E:F.length=a.dF.length)
  (G:Jn (fun v=>own v=4/\v<w.heap.size) w' p.jr p.ssd (1+2*n.pa) n.jo a.cov a.next W):
  CaAt (grow own 2 w.heap.size w'.heap.size) w' c n p {a with dF:=F,dO:=O,dP:=P,W:=W}:=by
 have A:=h.jrOwn.1;exact{h with
  str:=(j.block c h.clt (fun b=>by rcases b with(b|b)|b;rw[h.oc]at b;exact absurd b de;exact absurd h.clt oM;have:=h.oc;rw[b,A]at this;exact absurd this de)).trans h.str
  oc:=(zw h.clt).trans h.oc
  ssd:=(Dv.kD _ _ _ _).mine j.size D
  back:=(Dv.kD _ _ _ _).other2 h.back de de A j
  jr:=(Jn.kD _ _ _ _ _ _ _).out G (fun v _ b=>by rw[zw b.2];exact b.1)
  ix:=(Ix.kD _ _ _ _).other2 h.ix de de A j
  ss:=(Ss.kD _ _).other2 h.ss de de A j
  lg:=(Lg.kD _ _ _).other2 h.lg de de A j
  ck:=(Ck.kD _ _ _ _ _ _ _).other2 h.ck de de A j
  sm:=(Mp.kD _ _ _).other2 h.sm de de A j
  far:=(Did.step2 h.far (t:=2) (s:=4) de de de de A j).far
  nib:=h.nib.keep j (fun b=>by rcases b with(b|b)|b;rw[h.on]at b;exact absurd b de;exact absurd h.nib.lt oM;exact absurd (h.on.symm.trans ((congrArg own b).trans A)) de)
  tur:=h.tur.keep j (fun b=>by rcases b with(b|b)|b;rw[h.ot]at b;exact absurd b de;exact absurd h.tur.lt oM;exact absurd (h.ot.symm.trans ((congrArg own b).trans A)) de)
  on:=(zw h.nib.lt).trans h.on
  ot:=(zw h.tur.lt).trans h.ot
  fl:=E.trans h.fl}
abbrev CaS.dev(a:CaS)(r:DRes):CaS:={a with dF:=r.F,dO:=r.O,dP:=r.P}
abbrev CaS.ki(a:CaS)(r:DRes):CaS:={a with bF:=r.F,bO:=r.O,bP:=r.P}
theorem Ye(b:CaAt own w c n p a)(s:Nat)(j:s<a.dF.length)(x:Bk)(hx:x.length=64)(v:a.dO.length<65536):
  Calls prog 28 #[ptr p.ssd,.int .i64 (s:Int),.agg (bkC x).toArray] w (zx own w c n p (a.dev (writeR a.dF a.dO a.dP s x)) (.int .i64 (writeR a.dF a.dO a.dP s x).cd)):=
 (wD b.kC (fun _ b=> .inr b) s j x hx v).mono fun _ _ ⟨A,D,h⟩=>⟨A,_,b.kz h D (by rw[yL]),b.did2 h⟩
theorem sH(b:CaAt own w c n p a)(s:Nat)(j:s<a.bF.length)(x:Bk)(hx:x.length=64)(v:a.bO.length<65536):
  Calls prog 28 #[ptr p.back,.int .i64 (s:Int),.agg (bkC x).toArray] w (zx own w c n p (a.ki (writeR a.bF a.bO a.bP s x)) (.int .i64 (writeR a.bF a.bO a.bP s x).cd)):=
 (wD b.open3 (fun _ b=> .inr b) s j x hx v).mono fun _ _ ⟨A,D,h⟩=>⟨A,_,b.turn3 h D (by rw[yL]),b.did3 h⟩
def VD(own:Nat->Nat)(w:World)(c:Nat)(n:CaN)(p:CaP)(a:CaS)(y0:Bk)(cd0:Int)(e:Ending)(w':World):Prop:=
 ∃(y:Bk) (cd:Int),y=y0/\cd=cd0/\y.length=64/\e=.returned (.tuple #[.agg (bkC y).toArray,.int .i64 cd])/\∃own',CaAt own' w' c n p a/\Did own own' w w'
theorem tZ(b:CaAt own w c n p a)(s:Nat)(j:s<a.dF.length):
  Calls prog 100 #[ptr p.ssd,.int .i64 (s:Int)] w (VD own w c n p {a with dP:=a.dP.tail} (if fate a.dP=1 then zB else curB a.dF a.dO s) (if fate a.dP=1 then 19 else 0)):=
 (wE b.kC (fun _ b=> .inr b) s j).mono fun _ _ ⟨y,v,A,hy,D,E,F,h⟩=>⟨y,v,hy,D,E,A,_,b.kz h F rfl,b.did2 h⟩
theorem Yf(b:CaAt own w c n p a)(s:Nat)(j:s<a.bF.length):
  Calls prog 100 #[ptr p.back,.int .i64 (s:Int)] w (VD own w c n p {a with bP:=a.bP.tail} (if fate a.bP=1 then zB else curB a.bF a.bO s) (if fate a.bP=1 then 19 else 0)):=
 (wE b.open3 (fun _ b=> .inr b) s j).mono fun _ _ ⟨y,v,A,hy,D,E,F,h⟩=>⟨y,v,hy,D,E,A,_,b.turn3 h F rfl,b.did3 h⟩
theorem XL(b:CaAt own w c n p a):Calls prog 347 #[ptr p.jr] w (zx own w c n p a (.int .i64 ((n.jo:Int)-((a.next:Int)-1-(a.cov:Int))))):=
 (zce b.jr).mono fun _ _ ⟨j,h⟩=>⟨j,own,b.new h,b.j3 h⟩
theorem Tf(h:CaAt own w c n p a)(E:a.next<=a.cov+n.jo)(F:a.next<=1099511627776)(a0 a1 op j slot:Int)(v:Bool)(A:Int)(G:mayR (jaddX a.next n.jo op j slot v A)=true):
  Calls prog 355 #[ptr p.jr,.agg (recC a0 a1 op j slot v A).toArray] w (zx own w c n p {a with next:=a.next+1,W:=a.W++[(a.next,sectR (jaddX a.next n.jo op j slot v A))]} (.tuple #[.int .i64 (a.next:Int),.int .i64 0])):=
 (zha h.open4 (fun _ h=> .inr h) h.nib (fun b=>by rcases b with b|b;rw[h.on]at b;exact absurd b de;exact absurd h.nib.lt oM) E F a0 a1 op j slot v A G).mono fun _ _ ⟨H,J,D⟩=>⟨H,_,h.turn4 D J,h.did4 D⟩
abbrev CaS.com(n:CaN)(a:CaS):DRes×List (Nat×Bk):=comR (1+2*n.pa) n.jo a.dF a.dO a.dP a.W
theorem Jh(base k:Nat)(F:List Bk)(O:List (Nat×Bk))(P:List Int)(W:List (Nat×Bk)):(comR base k F O P W).1.F.length=F.length:=by
 unfold comR
 repeat' split
 all_goals simp only[qZ,Vg]
theorem QA(h:CaAt own w c n p a)(h1:∀q∈a.W,1<=q.1)(F:a.dO.length+a.W.length<=65536):
  Calls prog 220 #[ptr p.jr] w (zx own w c n p {a.dev (a.com n).1 with W:=(a.com n).2} (.int .i64 (a.com n).1.cd)):=by
 obtain⟨N,v,A⟩:=h.jr;have G:=h.fl;have O:=h.ok.z;unfold CaN.size at G;refine(AR v h1 h.kC (fun _ h=> .inr h) ?_ oM F).mono ?_
 .intro k b j;have H:=A k b;rcases j with j|j
  .rw [H]at j;exact absurd j de
  .have:=v.slt k b;omega
 .rintro e w' ⟨rfl,J,⟨K,L,D⟩,E⟩;have M:=h.jrOwn.1;refine⟨rfl,_,h.turn24 E J (Jh _ _ _ _ _ _) ⟨K,L,?_⟩,Did.step2 h.far de de de de M E⟩;rintro k (rfl|b)
  .exact ⟨A _ (.inl rfl),zd v.str⟩
  .rcases D with rfl|D
   .exact ⟨A _ (.inr b),v.slt k (.inr b)⟩
   .rw [D]at b;cases b
end
theorem zaH(ps:List (Int×Bool))(b:Nat)(k s:Int)(d:Bool):(ui ps b k s d).length=ps.length:=by unfold ui;split<;>simp
theorem Ji(ps:List (Int×Bool))(k:Int):(dropL ps k).length=ps.length:=by unfold dropL;split<;>simp
theorem XM(l:List Int)(s t:Int):(turnList l s t).length=l.length:=by unfold turnList;split<;>simp
section
variable{own:Nat->Nat}{w w':World}{c:Nat}{n:CaN}{p:CaP}{a:CaS}
theorem VE(b:CaAt own w c n p a)(k:Int):
  Calls prog 214 #[ptr p.ix,.int .i64 k] w (zx own w c n p a (.tuple #[zP (getV a.ps k).1 (getV a.ps k).2,.int .i64 (getC a.ps k)])):=by
 obtain⟨A,D,j,-,-⟩:=b.ix;exact(ZQ j k).mono fun _ _ ⟨v,h⟩=>⟨v,own,b.new (uuo h),b.j3 (uuo h)⟩
theorem Jj(b:CaAt own w c n p a)(k s:Int)(d:Bool)(v:a.iN<maxLen):
  Calls prog 186 #[ptr p.ix,.int .i64 k,zP s d] w (zx own w c n p {a with iN:=a.iN+1,ps:=ui a.ps n.sl k s d} (.tuple #[zP (uH a.ps n.sl k s).1 (uH a.ps n.sl k s).2,.int .i64 (putC a.ps n.sl k s)])):=by
 obtain⟨A,D,E,F,h⟩:=b.open5;exact(AX E k s d v).mono fun _ _ ⟨G,H,J⟩=>
  have j:=J.mono (fun K _ L=>h K L)
  ⟨G,_,b.turn5 j ⟨A,D,H,F,h⟩ (zaH _ _ _ _ _),b.did5 j⟩
theorem zaI(b:CaAt own w c n p a)(k:Int):
  Calls prog 392 #[ptr p.ix,.int .i64 k] w (zx own w c n p {a with ps:=dropL a.ps k} (.tuple #[zP (getV a.ps k).1 (getV a.ps k).2,.int .i64 (getC a.ps k)])):=by
 obtain⟨v,A,D,E,h⟩:=b.open5;exact(Sr D k).mono fun _ _ ⟨F,G,H⟩=>
  have j:=H.mono (fun J _ K=>h J K)
  ⟨F,_,b.turn5 j ⟨v,A,G,E,h⟩ (Ji _ _),b.did5 j⟩
theorem xu(b:CaAt own w c n p a)(s t:Int):
  Calls prog 187 #[ptr p.ss,.int .i64 s,.int .i64 t] w (zx own w c n p {a with st:=turnList a.st s t} (.int .i64 (turnCode a.st s t))):=by
 obtain⟨v,A,D,h⟩:=b.open6;exact(Xd A b.tur s t).mono fun _ _ ⟨E,F,G⟩=>
  have j:=G.mono (fun H _ J=>h H J)
  ⟨E,_,b.turn6 j ⟨v,F,D,h⟩ (XM _ _ _),b.did6 j⟩
theorem Tg(b:CaAt own w c n p a)(k:Int)(j:InR k)(v:a.kN<maxLen):
  Calls prog 189 #[ptr p.ck,.int .i64 k] w (zx own w c n p {a with kN:=a.kN+1,K:=sD n.sl a.K k,A:=Qd n.sl a.K a.A a.H k,H:=Qe n.sl a.K a.H k} (.int .i64 (addC n.sl a.K k))):=
 (Sx b.open8 (fun _ b=> .inr b) k j v).mono fun _ _ ⟨D,E,h⟩=>⟨D,_,b.turn8 h E,b.did8 h⟩
theorem Jk(b:CaAt own w c n p a)(k:Int):
  Calls prog 349 #[ptr p.ck,.int .i64 k] w (zx own w c n p {a with K:=a.K.erase k,A:=dropA a.K a.A k} (.int .i64 (touchC a.K k))):=
 (Qf b.open8 k).mono fun _ _ ⟨j,v,h⟩=>⟨j,_,b.turn8 h v,b.did8 h⟩
theorem QB(b:CaAt own w c n p a)(k:Int)(j:a.kN<maxLen):
  Calls prog 391 #[ptr p.ck,.int .i64 k] w (zx own w c n p {a with kN:=a.kN+1,A:=agA a.A a.K k} (.int .i64 (touchC a.K k))):=
 (Qg b.open8 k j).mono fun _ _ ⟨v,D,h⟩=>⟨v,_,b.turn8 h D,b.did8 h⟩
theorem Th(h:CaAt own w c n p a){N:Nat}{f:Int->Option Nat}(A:MapAt w' p.sm N f)(D:Upd (fun b=>b=p.sm) w w'):∃j,CaAt j w' c n p {a with mN:=N,sums:=f}/\Did own j w w':=by
 have v:Upd (fun b=>own b=9\/w.heap.size<=b) w w':=D.mono (fun b _ e=> .inl (e▸h.sm.2));exact⟨_,h.turn9 v ⟨A,.inl h.sm.2⟩,h.did9 v⟩
theorem XN(h:CaAt own w c n p a){x:Int}(h1: -9223372036854775808<=x)(h2:x<9223372036854775808)(y:Nat)(hy:y<9223372036854775808)(j:a.mN<maxLen):
  ∃w' b,(Instr.mapUpdate 145 (.map (some p.sm)) (.int .i64 x) (.int .i64 (y:Int))).run prog w=.ok () w'/\CaAt b w' c n p {a with mN:=a.mN+1,sums:=xT a.sums x (some y)}/\Did own b w w':=by
 obtain⟨w',v,A,D,-⟩:=h.sm.1.store h1 h2 y hy j;obtain⟨b,E,F⟩:=Th h A D;exact⟨w',b,v,E,F⟩
theorem zdp(h:CaAt own w c n p a){x:Int}(h1: -9223372036854775808<=x)(h2:x<9223372036854775808)(j:TypeId):
  ∃w' b,(Builtin.delete_ #[145,3] j #[.map (some p.sm),.int .i64 x]).run prog w=.ok (.tuple #[]) w'/\CaAt b w' c n p {a with sums:=xT a.sums x none}/\Did own b w w':=by
 obtain⟨w',v,A,D,-⟩:=h.sm.1.drop h1 h2 j;obtain⟨b,E,F⟩:=Th h A D;exact⟨w',b,v,E,F⟩
end
def cleanB(ps:List (Int×Bool))(k:Int):Bool:=getC ps k==0&&!(getV ps k).2
theorem rK{n:CaN}{a:CaS}(h:CaAt own w c n p a)(k:Int):
  Calls prog 419 #[ptr c,.int .i64 k] w fun e w'=>e=.returned (.bool (cleanB a.ps k))/\Below w.heap.size w w':=by
 obtain⟨H,J,j,-,-⟩:=h.ix;obtain⟨-,-,-,-,K,-,-,-,-⟩:=h.cells;have E:=qqh (ZQ j k);clear j h;unfold cleanB;generalize getV a.ps k=F at*;generalize getC a.ps k=v at*;obtain⟨s,L⟩:=F;go_enter func419,ntmps419
 go_wp2_with fail
 refine E.o.mono ?_;rintro e w1 ⟨rfl,A⟩;have b:=qqh A;clear A;by_cases D:v=0
 .subst D;go_wp2
  go_ret
  exact⟨oe,b.o.alloc b.o.size _⟩
 .have G:(v==0)=false:=by simpa using D
  go_wp2
  go_ret
  exact⟨by simp[G],b.o.alloc b.o.size _⟩
def zdq(own:Nat->Nat)(w:World)(c:Nat)(n:CaN)(p:CaP)(a:CaS)(e:Ending)(w':World):Prop:=
 ∃key code K' A' H',e=.returned (.tuple #[.int .i64 key,.int .i64 code])/\EvG.EvOut (cleanB a.ps) n.sl a.K a.A a.H key code K' A' H'/\∃own',CaAt own' w' c n p {a with K:=K',A:=A',H:=H'}/\Did own own' w w'
section
variable{own:Nat->Nat}{w w':World}{c:Nat}{n:CaN}{p:CaP}{a:CaS}
theorem Jl(b:CaAt own w c n p a):EvG.MayIs (ptr c) (cleanB a.ps) w:=fun _ k _ h=>rK (b.new h) k
theorem QC(b:CaAt own w c n p a):Calls prog 418 #[ptr p.ck,EvG.mayV (ptr c)] w (zdq own w c n p a):=
 (EvG.evict_ck b.open8 (fun _ b=> .inr b) (ptr c) (cleanB a.ps) (Jl b)).mono fun _ _ ⟨j,v,A,D,E,F,G,H,h⟩=>⟨j,v,A,D,E,F,G,_,b.turn8 h H,b.did8 h⟩
end
abbrev CaS.noted(n:CaN)(a:CaS)(op block slot:Int)(d:Bool)(sum:Int):CaS:={a with next:=a.next+1,W:=a.W++[(a.next,sectR (jaddX a.next n.jo op block slot d sum))]}
abbrev CaS.left(n:CaN)(a:CaS)(k:Int):CaS:={a.noted n 1 k 0 false 0 with ps:=dropL a.ps k,sums:=xT a.sums k none,st:=turnList a.st (getV a.ps k).1 3}
theorem XO{n:CaN}{a:CaS}(h:CaAt own w c n p a)(k:Int)(b:getC a.ps k=0)(Q:a.next<=a.cov+n.jo)(T:a.next<=1099511627776)(U:mayR (jaddX a.next n.jo 1 k 0 false 0)=true):
  Calls prog 348 #[ptr c,.int .i64 k] w (zx own w c n p (a.left n k) (.int .i64 (turnCode a.st (getV a.ps k).1 3))):=by
 have ae:0<=k/\k<4096:=by
  have h1:=h.pl;have h2:=h.ok.b2;unfold getC at b;split at b
  .cases b
  .omega
 obtain⟨ax,ay⟩:=ae;have V:=qqh (Tf h Q T 0 0 1 k 0 false 0 U);obtain⟨-,-,-,af,ag,-,-,-,-⟩:=h.cells;have ah:=Y2 h b;clear h b Q T U;go_enter func348,ntmps348
 go_wp2_with fail
 refine V.o.mono ?_;rintro e w1 ⟨rfl,az,h1,X⟩;have Y:=qqh (zaI h1 k);obtain⟨-,-,-,-,aA,-,-,-,-⟩:=h1.cells;have ai:=qqh X;clear h1 X V af ag;go_wp2_with fail
 refine Y.o.mono ?_;rintro e j ⟨rfl,aj,h2,Z⟩;have b:=ah.o.2;obtain⟨s,v⟩:=qqe ((getV a.ps k).1);obtain⟨a6,a7⟩:=qqe ((getV a.ps k).2);rw[b];have F:Upd (fun _=>False) j (j.alloc (.cells #[.int .i64 s,.bool a6] 231)):=(uur _ _).alloc _;have G:=h2.new F;have a8:(j.alloc (.cells #[.int .i64 s,.bool a6] 231)).cell? ⟨j.heap.size,0,none⟩=some (.int .i64 s):=za (zc j _ rfl) 0;have H:aj j.heap.size=0:=h2.far _ (qXp _);have aa:=(ai.o.trans Z).trans (h2.j3 F);rw[<-v,<-a7];obtain⟨ab,ak,aB,J,E⟩:=zdp G (x:=k) oM oM 0;obtain⟨-,-,-,-,-,-,-,-,aC⟩:=G.cells;obtain⟨-,-,-,-,-,am,-,-,-⟩:=J.cells;have K:=E.upd.jU a8 (fun h=>h.1 H);obtain⟨m,A⟩:=qqe (j.heap.size);have an:Hid (ak m=0):=(E.old m (by rw[A];simp)).trans (by rw[A];exact H);have L:=Y3 J (aa.trans E) v;have ao:=qqh A;rw[<-A]at K;clear F G a8 H aa J E h2 Z Y b v a7 A;go_upto_region 8 with fail
 rw[<-ao.o];refine qZd (S:=fun W=>W.cell? ⟨c,19,none⟩=some (ptr p.ss)/\W.cell? ⟨m,0,none⟩=some (.int .i64 s)) kR (by(simp only[qYi]);exact⟨am,K⟩) (fun ap=>?_);refine Wl.i [0,1,2,3,4,5] ?_;iterate 6 refine Wl.t ap ?_
 refine Wl.o ?_;refine Wl.r 6 (fun M D=>?_);go_simp
 have aq:=qqh (xu (L.o.1.new ((uur (fun _=>False) ab).drew)) s 3);refine aq.o.mono ?_;rintro e aD ⟨rfl,ar,N,O⟩;obtain⟨-,-,-,-,-,au,-,-,-⟩:=N.cells;have av:=O.upd.jU (show ab.drew.cell? ⟨m,0,none⟩=some (.int .i64 s) by rw[qYi];exact K) (fun h=>h.1 an.o);have ad:=Y2 N O;clear N O;refine D.o _ _ (⟨au,av⟩) (fun aw=>?_);clear D M;refine Wl.r 7 (fun M D=>?_);go_simp
 refine D.o _ _ (aw) (fun aE=>?_);clear D M;refine Wl.d ?_;go_wp2
 go_ret
 have v:=L.o.2.2;subst v;exact⟨rfl,ar,ad.o.1,(L.o.2.1.drew).trans ad.o.2⟩
abbrev CaS.ky(n:CaN)(a:CaS)(k:Int):CaS:={a.left n k with K:=a.K.erase k,A:=dropA a.K a.A k}
theorem XP{n:CaN}{a:CaS}(b:CaAt own w c n p a)(k:Int)(D:getC a.ps k≠0):
  Calls prog 277 #[ptr c,.int .i64 k] w (zx own w c n p a (.int .i64 0)):=by
 have j:=qqh (VE b k);obtain⟨-,-,-,-,E,-,-,-,-⟩:=b.cells;clear b;have J:(getC a.ps k==0)=false:=by simpa using D
 go_enter func277,ntmps277
 go_wp2_with fail
 refine j.o.mono ?_;rintro e w1 ⟨rfl,F,h1,v⟩;have h:=Y2 h1 v;clear h1 v j E;generalize getV a.ps k=G at*;generalize getC a.ps k=K at*;obtain⟨s,H⟩:=G;go_wp2
 go_ret
 have A:=(uur (fun _=>False) w1).alloc (.cells #[.int .i64 s,.bool H] 231);exact⟨rfl,F,h.o.1.new A,h.o.2.trans (h.o.1.j3 A)⟩
theorem Yg{n:CaN}{a:CaS}(j:CaAt own w c n p a)(k:Int)(v:getC a.ps k=0)(F:a.next<=a.cov+n.jo)(G:a.next<=1099511627776)(H:mayR (jaddX a.next n.jo 1 k 0 false 0)=true)
  (J:turnCode a.st (getV a.ps k).1 3=0):
  Calls prog 277 #[ptr c,.int .i64 k] w (zx own w c n p (a.ky n k) (.int .i64 (touchC a.K k))):=by
 have A:=qqh (VE j k);obtain⟨-,-,-,-,X,-,-,-,-⟩:=j.cells;have b:=Y5 v F G H J;rw[v]at A;clear j v F G H J;go_enter func277,ntmps277
 go_wp2_with fail
 refine A.o.mono ?_;rintro e w1 ⟨rfl,aa,h1,L⟩;obtain⟨s,M⟩:=qqe ((getV a.ps k).1);obtain⟨N,O⟩:=qqe ((getV a.ps k).2);have h:=(uur (fun _=>False) w1).alloc (.cells #[.int .i64 s,.bool N] 231);obtain⟨ab,D⟩:=qqe (w1.alloc (.cells #[.int .i64 s,.bool N] 231));rw[<-D]at h;have h2:=h1.new h;have Y:=qqh (L.trans (h1.j3 h));have P:=qqh (XO h2 k b.o.1 b.o.2.1 b.o.2.2.1 b.o.2.2.2.1);have Z:=qqh D;rw[<-M,<-O];clear h1 L A X h h2 M O D;go_wp2_with fail
 rw[<-Z.o];refine P.o.mono ?_;rw[b.o.2.2.2.2];rintro e ad ⟨rfl,ae,E,Q⟩;obtain⟨-,-,-,-,-,-,-,a6,-⟩:=E.cells;have S:=qqh (Jk E k);have a7:=qqh (Y.o.trans Q);clear E Q P;go_wp2_with fail
 refine S.o.mono ?_;rintro e af ⟨rfl,a8,T,U⟩;have V:=Y2 T U;clear T U a6 S;go_wp2
 go_ret
 exact⟨rfl,a8,V.o.1,a7.o.trans V.o.2⟩
theorem Yh(l:List Int):(allocList l).length=l.length:=by simp[allocList]
section
variable{own:Nat->Nat}{w w':World}{c:Nat}{n:CaN}{p:CaP}{a:CaS}
theorem Jm(b:CaAt own w c n p a):
  Calls prog 388 #[ptr p.ss] w (zx own w c n p {a with st:=allocList a.st} (.tuple #[.int .i64 (allocVal a.st),.int .i64 (allocCode a.st)])):=by
 obtain⟨v,A,D,h⟩:=b.open6;exact(TR A).mono fun _ _ ⟨E,F,G⟩=>
  have j:=G.mono (fun H _ J=>h H J)
  ⟨E,_,b.turn6 j ⟨v,F,D,h⟩ (Yh _),b.did6 j⟩
theorem rN(b:CaAt own w c n p a)(h:Int):
  Calls prog 389 #[ptr p.ss,.int .i64 h] w (zx own w c n p a (.int .i64 (pos a.st h).length)):=by
 obtain⟨D,v,-,-⟩:=b.ss;exact(TV v h (by rw[b.sl];exact b.ok.s1)).mono fun _ _ ⟨A,j⟩=>⟨A,own,b.new (uuo j),b.j3 (uuo j)⟩
end
def CaS.fb(a:CaS):CaS:=a.ki (flushR a.bF a.bO a.bP)
def CaS.cm(n:CaN)(a:CaS):CaS:={a.dev (a.com n).1 with W:=(a.com n).2}
def CaS.jZ(n:CaN)(a:CaS):CaS×Int:=
 if(flushR a.bF a.bO a.bP).cd≠0 then(a.fb,(flushR a.bF a.bO a.bP).cd)else if(a.fb.com n).1.cd≠0 then(a.fb.cm n,(a.fb.com n).1.cd)else({a.fb.cm n with st:=freeTo a.st (pos a.st 3)},0)
theorem wM{n:CaN}{a:CaS}(h:CaAt own w c n p a)(h1:∀q∈a.W,1<=q.1)(G:a.dO.length+a.W.length<=65536):
  Calls prog 150 #[ptr c] w (zx own w c n p (a.jZ n).1 (.int .i64 (a.jZ n).2)):=by
 have H:=qqh (vW h);obtain⟨-,S,-,-,-,-,-,-,-⟩:=h.cells;have J:=Y2 h1 G;clear h h1 G;go_enter func150,ntmps150
 go_wp2_with fail
 refine H.o.mono ?_;rintro e w1 ⟨rfl,K,h1,j⟩;have b:a.jZ n=a.jZ n:=rfl
 conv at b=>rhs;unfold CaS.jZ
 generalize T:(flushR a.bF a.bO a.bP).cd=L at*;replace h1:CaAt K w1 c n p a.fb:=h1;obtain⟨-,-,-,U,-,-,-,-,-⟩:=h1.cells;have V:=qqh (QA h1 J.o.1 J.o.2);have M:=Y3 h1 j b;clear h1 j b H S T;by_cases A:L=0
 .have a8:=qqh A;subst A;go_wp2_with fail
  refine V.o.mono ?_;rintro e X ⟨rfl,N,h2,v⟩;obtain⟨h1,j,b⟩:=M.o;rw[if_neg oe]at b;generalize (a.fb.com n).1.cd=O at*;replace h2:CaAt N X c n p (a.fb.cm n):=h2;have Y:=qqh (UO h2);have Q:=Y3 h2 (j.trans v) b;clear h1 j b h2 v U;by_cases F:O=0
  .subst F;go_wp2_with fail
   refine Y.o.mono ?_;rintro e aa ⟨rfl,Z,D,E⟩;obtain⟨h2,v,b⟩:=Q.o;rw[if_neg oe]at b;have a6:=Y3 D (v.trans E) b;clear h2 v b D E;go_wp2
   go_ret
   obtain⟨D,E,b⟩:=a6.o;rw[b];exact⟨rfl,Z,D,E⟩
  .have a7:(O==0)=false:=by simpa using F
   go_wp2
   go_ret
   obtain⟨h2,v,b⟩:=Q.o;rw[if_pos F]at b;rw[b];exact⟨rfl,N,h2,v⟩
 .have a7:(L==0)=false:=by simpa using A
  go_wp2
  go_ret
  obtain⟨h1,j,b⟩:=M.o;rw[if_pos A]at b;rw[b];exact⟨rfl,K,h1,j⟩
theorem XQ{n:CaN}{a:CaS}(h:CaAt own w c n p a)(A:a.next+1<=a.cov+n.jo):
  Calls prog 276 #[ptr c] w (zx own w c n p a (.int .i64 0)):=by
 have b:=qqh (XL h);obtain⟨-,-,-,D,-,-,-,-,-⟩:=h.cells;have F:decide ((n.jo:Int)-((a.next:Int)-1-(a.cov:Int))>=2)=true:=by simp;omega
 have q1:(2:Int)<=(n.jo:Int)-((a.next:Int)-1-(a.cov:Int)):=oM;clear h A;go_enter func276,ntmps276
 go_wp2_with fail
 refine b.o.mono ?_;rintro e w1 ⟨rfl,E,h1,j⟩;have v:=Y2 h1 j;clear h1 j b D;generalize (n.jo:Int)-((a.next:Int)-1-(a.cov:Int))=r at*;go_wp2
 go_ret
 exact⟨rfl,E,v.o.1,v.o.2⟩
def CaN.ke(n:CaN):Nat:=1+2*n.pa+n.jo+n.lo+n.lo+n.lo
def CaS.j7(n:CaN)(a:CaS)(s:Nat)(blk:Int)(x:Bk):CaS×Int:=
 if(writeR a.dF a.dO a.dP (n.ke+s) x).cd=0 then({a with G:=ZT a.G s blk}.dev (writeR a.dF a.dO a.dP (n.ke+s) x),0)
 else({{a with G:=ZT a.G s blk}.dev (writeR a.dF a.dO a.dP (n.ke+s) x)with st:=turnList a.st s 4},(writeR a.dF a.dO a.dP (n.ke+s) x).cd)
theorem zaJ{n:CaN}{a:CaS}(h:CaAt own w c n p a)(s:Nat)(aa:s<n.sl)(b:Int)(ab:b= -1\/(0<=b/\b<(n.bl:Int)))(x:Bk)(hx:x.length=64)(D:a.dO.length<65536):
  Calls prog 345 #[ptr c,.int .i64 (s:Int),.int .i64 b,.agg (bkC x).toArray] w (zx own w c n p (a.j7 n s b x).1 (.int .i64 (a.j7 n s b x).2)):=by
 obtain⟨w1,E⟩:=qqe (w.alloc (.cells (bkC x).toArray 54));have T:=qqu E;have j:=qqg E;obtain⟨m,U⟩:=qqe (w.heap.size);have A:own m=0:=h.far _ oM;rw[<-U]at j;have h1:=h.new T;have ad:=qqh (ZV h1 s aa b ab);obtain⟨-,-,-,-,-,-,ae,-,-⟩:=h1.cells;have af:=h.fl;have av:=h.ok.z;have F:n.ke+s<a.dF.length:=by unfold CaN.size at af;unfold CaN.ke;omega
 have aw:n.ke+s<8192:=oM;obtain⟨K,v⟩:=qqe (n.ke+s);have aK:IntKind.i64.wrap ((n.ke:Int)+(s:Int))=(K:Int):=by rw[v,qxr];exact qxt _ oM
 have ax:Hid ((n.ke:Int)+(s:Int)=(K:Int)):=by show _=_;rw[v,qxr]
 have ay:=Y7 A (h.j3 T) j F hx D v;have az:=qqh U;have aA:=qqh E;have ag:=ae;rw[E]at ag;have aB:=underlying54;have aC:=zv x hx;clear h ab hx D T j h1 af av F aw A U E ae aa;go_enter func345,ntmps345
 go_wp2_with fail
 rw[<-aA.o,<-az.o];refine ad.o.mono ?_;rintro e V ⟨rfl,aD,h2,L⟩;obtain⟨A,ah,j,F,hx,D,v⟩:=ay.o;obtain⟨ai,-,-,-,-,-,-,-,-⟩:=h2.cells;obtain⟨-,-,-,M⟩:=h2.lay;have M:V.cell? ⟨c,12,none⟩=some (.int .i64 (n.ke:Int)):=by rw[M];congr 2
 have X:=L.upd.range (zf j) (fun h=>h.1 A);have aj:aD m=0:=(L.old m (zd j)).trans A;have Y:=Y4 h2 (ah.trans L) aj v;have ak:=qqh (Ye (h2.new ((uur (fun _=>False) V).drew)) K (by rw[v];exact F) x hx D);clear A ah j F hx D v h2 L aj ad ag;go_upto_region 2 with fail
 refine qZd (S:=fun W=>W.cell? ⟨c,14,none⟩=some (ptr p.ssd)/\W.cell? ⟨c,12,none⟩=some (.int .i64 (n.ke:Int))/\W.rangeAt m 0 (bkC x)) kR (by(simp only[qYi,qYk]);exact⟨ai,M,X⟩) (fun Z=>?_);refine Wl.i [0,1,2,3,4,5,6,7,8,9,10] ?_;iterate 11 refine Wl.t Z ?_
 refine Wl.o ?_;refine Wl.l 11 (fun w h=>h.2.2) aB aC Z ?_;refine Wl.r 12 (fun a6 G=>?_);go_simp
 rw[ax.out];refine ak.out.mono ?_;rintro e aE ⟨rfl,aF,H,a7⟩;obtain⟨am,-,-,-,-,aG,-,-,-⟩:=H.cells;obtain⟨-,-,-,N⟩:=H.lay;have N:aE.cell? ⟨c,12,none⟩=some (.int .i64 (n.ke:Int)):=by rw[N];congr 2
 have an:=a7.upd.range (show V.drew.rangeAt m 0 (bkC x) by rw[qYk];exact X) (fun h=>h.1 Y.o.2.2.1);have a8:=qqh (xu H s 4);have O:=Y2 H ((Y.o.2.1.drew).trans a7);clear H a7;refine G.o _ _ (⟨am,N,an⟩) (fun ao=>?_);clear G a6;refine Wl.r 13 (fun a6 G=>?_);go_simp
 refine G.o _ _ (ao) (fun aH=>?_);clear G a6;refine Wl.d ?_;have Q:a.j7 n s b x=a.j7 n s b x:=rfl
 conv at Q=>rhs;unfold CaS.j7
 rw[<-Y.o.2.2.2]at Q⊢;simp only at a8 O⊢;generalize writeR a.dF a.dO a.dP K x=r at*;have ap:=qqh Q;clear Q Z ao aH am N an X ai M ak;by_cases J:r.cd=0
 .have aI:=qqh J;rw[J];clear J;go_wp2
  go_ret
  rw[ap.out,if_pos aI.o];exact⟨rfl,aF,O.o.1,O.o.2⟩
 .have aL:(r.cd==0)=false:=by simpa using J
  go_wp2_with fail
  refine a8.o.mono ?_;rintro e aM ⟨rfl,aJ,aq,ar⟩;have au:=Y2 aq ar;clear aq ar aG a8;go_wp2
  go_ret
  rw[ap.out,if_neg J];exact⟨rfl,aJ,au.o.1,O.o.2.trans au.o.2⟩
def dsR(xs:List Int):List Value:=[.int .i64 (xs.getD 0 0),.int .i64 (xs.getD 1 0),.int .i64 (xs.getD 2 0),.int .i64 (xs.getD 3 0),.int .i64 (xs.getD 4 0),.bool (xs.getD 5 0==1),.int .i64 (xs.getD 6 0)]
theorem qD(xs:List Int):(dsR xs).length=7:=rfl
theorem wN(xs:List Int):∀b∈dsR xs,b.oneCell'=true:=by
 intro b h;simp only[dsR,qzm,qzy,qYv]at h;rcases h with rfl|rfl|rfl|rfl|rfl|rfl|rfl<;>rfl
theorem zdr{gl ol cl:Nat}(xs:List Int)(j:xs.length=7)(hx:w.rangeAt gl ol (ints xs)):
  Calls prog 307 #[.slice (some ⟨gl,ol,none⟩) 7 cl] w fun e w'=>e=.returned (.agg (dsR xs).toArray)/\Below w.heap.size w w':=by
 have b:=yx hx 0 oM;have K:=yx hx 1 oM;have L:=yx hx 2 oM;have M:=yx hx 3 oM;have N:=yx hx 4 oM;have O:=yx hx 5 oM;have Q:=yx hx 6 oM;rw[qXm]at b;have hlt:gl<w.heap.size:=qYh w _ b;have v:Hid (dsR xs=[.int .i64 (xs.getD 0 0),.int .i64 (xs.getD 1 0),.int .i64 (xs.getD 2 0),.int .i64 (xs.getD 3 0),.int .i64 (xs.getD 4 0),.bool (xs.getD 5 0==1),.int .i64 (xs.getD 6 0)]):=rfl;generalize xs.getD 0 0=A at*;generalize xs.getD 1 0=D at*;generalize xs.getD 2 0=E at*;generalize xs.getD 3 0=F at*;generalize xs.getD 4 0=G at*;generalize xs.getD 5 0=H at*;generalize xs.getD 6 0=J at*;clear hx j;go_enter func307,ntmps307
 go_wp2
 go_region
 go_wp2
 exact qYq (zq rfl _ _ w.heap.size 0 [.int .i64 A,.int .i64 D,.int .i64 E,.int .i64 F,.int .i64 G,.bool (H==1),.int .i64 J] _ rfl ((qYk ..).2 (zf (zc w _ rfl))) underlying273 rfl infoThR) rfl
  ⟨by rw[v.out],zN ((qxl _ w).alloc (qXp _) _) 1⟩
end Go.Proofs.YtbnpkobbnjihjaaGreatDoor
