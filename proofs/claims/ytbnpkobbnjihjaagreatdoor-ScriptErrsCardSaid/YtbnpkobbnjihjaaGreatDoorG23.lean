/- A cache: Read. -/
import Derived.Test.YtbnpkobbnjihjaaGreatDoorG20
set_option maxRecDepth 100000
set_option maxHeartbeats 2000000
namespace Go.Proofs.YtbnpkobbnjihjaaGreatDoor
open Go Go.RowKit Tryz
def CaS.readS(n:CaN)(a:CaS)(k:Int)(s:Nat):CaS×Bk×Int:=
 if fate a.dP=1 then({a with dP:=a.dP.tail},zB,19)
 else if crcC (curB a.dF a.dO (n.ke+s))=(a.sums k).getD 0 then({a with dP:=a.dP.tail},curB a.dF a.dO (n.ke+s),0)else({a with dP:=a.dP.tail},zB,13)
def CaS.j9(n:CaN)(a:CaS)(k:Int):CaS×Bk×Int:=
 if getC a.ps k=14 then({a with bP:=a.bP.tail},(if fate a.bP=1 then zB else curB a.bF a.bO k.toNat),(if fate a.bP=1 then 19 else 0))
 else if getC a.ps k≠0 then(a,zB,getC a.ps k)else a.readS n k (getV a.ps k).1.toNat
section
variable{own own2:Nat->Nat}{w w' W2:World}{c m:Nat}{n:CaN}{p:CaP}{a:CaS}{N:Nat}
theorem xR(h:CaAt own2 W2 c n p a)(d:Did own own2 w W2)(j:own2 m=0)(k:w.heap.size<=m)(h1:m≠1)(h2:m≠0)(cs:List Value):CaAt own2 (W2.setCells m 0 cs) c n p a/\Did own own2 w (W2.setCells m 0 cs):=
 ⟨h.kf (zo W2 m 0 cs) (fun b e=>by subst e;exact⟨j,h1,h2⟩),⟨d.upd.new (zo W2 m 0 cs) (fun i q e=>oM),d.old,d.new,fun b s=>d.far b (by have:=(zo W2 m 0 cs).size;omega)⟩⟩
theorem xj{W:World}{g:Nat}{cs:List Value}{t:TypeId}(b:W.heap[g]?=some (.cells cs.toArray t (0,0)))(h:cs.length=64):W.there g 0 64:=fun j k=>by
 rw[za b,zg b];exact⟨by rw[qXy,qxe (by simp[h];omega)];rfl,rfl⟩
theorem Zcg23{P:Prop}(h:P:=by
  refine q.o _ _ (⟨bh,bi,bj⟩) (fun bk=>?_);clear q H;refine Wl.r 18 (fun H q=>?_);go_simp
  refine q.o _ _ (bk) (fun _=>?_);clear q H;refine Wl.d ?_;obtain⟨aX,bl⟩:=qqe (az.setCells g 0 (bkC y));rw[<-bl]at F L Y M⊢;have aB:K g=0:=aS;have aC:=Y13 F L Y M A b aO.o.1 aO.o.2 aB ak a7 ag af;clear F L Y M A b aO aB aS ak a7 bf aT ag af Q W be aR aU aA aV b7 aJ aP bh bi bj am aW bl av aL aw bk bg T bQ bR bd;by_cases ai:U=0
  rotate_left
  .have cj:(U==0)=false:=by simpa using ai
   obtain⟨F,L,-,M,A,b,hy,j,-⟩:=aC.o;have O:fate a.dP=1:=by
    refine Decidable.byContradiction fun O=>?_;rw[if_neg O]at j;exact ai j
   rw[if_pos O]at b j;have hth:=xj M jJ;obtain⟨s,D⟩:=xR F L A G.o.2.2 G.o.1 G.o.2.1 (bkC v);have an:=Y4 s D b j;clear F L M A b hy j s D O aC;go_wp2_with (first
    |(refine zX rfl rfl aa.o.2 ?_)
    |(refine qZc rfl _ _ _ rfl _ _ (bkC v).toArray rfl rfl oJ oN (qYo (zu _)) ?_)
    |fail)
   obtain⟨s,D,b,j⟩:=an.o;refine qYq (zp rfl _ _ m 0 (bkC v) _ rfl (qYl _ _ _ _ oR) underlying54 rfl (zv v hZl)) rfl ?_;rw[b];exact⟨v,U,aa.o.1,j,hZl,rfl,K,s,D⟩
  subst ai;obtain⟨F,L,Y,M,A,b,hy,j,aB,ak,a7,ag,af⟩:=aC.o;have O:¬fate a.dP=1:=fun O=>by rw[if_pos O]at j;cases j
  rw[if_neg O]at b hy;rw[<-hy]at b;have E:=((uur (fun _=>False) aX).drew)
  obtain⟨c6,aY⟩:=qqe (aX.drew);rw[<-aY]at E;obtain⟨bn,aD⟩:=qqe (c6.alloc (.cells #[.slice (some ⟨g,0,none⟩) 64 64] 354));have ao:=qqu aD;have bo:=qqg aD;have s:=F.new E;have bp:=s.new ao;have bq:=ao.range (E.range Y id) id;obtain⟨sm,aE⟩:=qqe ((a.sums k).getD 0);rw[<-aE]at b;have aF:∀ap,Upd (fun _=>False) aX ap->ap.cell? ⟨c,22,none⟩=some (.map (some p.sm))/\(Instr.lookup 145 (.map (some p.sm)) (.int .i64 k) false).run prog ap=.ok (.int .i64 (sm:Int)) ap:=by
   intro ap c7;have br:=F.new c7;obtain⟨-,-,-,-,-,-,-,-,c8⟩:=br.cells;refine⟨c8,?_⟩;rw[aE];exact br.sm.1.look1 oM oM
  have aZ:=aF _ E;have bs:=aF _ (E.trans ao);have bt:=qqh (qp (cl:=1) y bp.nib (za bo 0) bq hyl oM oM);have bu:Hid (∀J,Below bn.heap.size bn J->(CaAt K J c n p {a with dP:=a.dP.tail}/\Did own K w J)/\J.rangeAt g 0 (bkC y)/\J.heap[m]?=some (.cells (bkC zB).toArray 54 (0,0))/\(J.cell? ⟨c,22,none⟩=some (.map (some p.sm))/\(Instr.lookup 145 (.map (some p.sm)) (.int .i64 k) false).run prog J=.ok (.int .i64 (sm:Int)) J)):=by
   intro J aG;have aq:=(E.trans ao).trans (uuo (S:=fun _=>False) aG);exact⟨⟨F.new aq,L.trans (F.j3 aq)⟩,aq.range Y id,aq.jV M,aF _ aq⟩
  have ad:=Y6 b A aY aD aE a7;clear F L Y M A b hy j aB ak a7 O E ao bo s bp bq aF aY aD aE aC ag af;go_upto_region 11 with fail
  refine qZd (S:=fun aj=>aj.cell? ⟨c,22,none⟩=some (.map (some p.sm))/\(Instr.lookup 145 (.map (some p.sm)) (.int .i64 k) false).run prog aj=.ok (.int .i64 (sm:Int)) aj) kR (by rw[<-ad.o.2.2.1];exact aZ) (fun _=>?_);rw[<-ad.o.2.2.1];have av:=aZ;refine Wl.i [0,3,4,5,6,7,8] ?_;iterate 7 refine Wl.t av ?_
  refine Wl.o ?_;refine Wl.r 1 (fun H q=>?_);go_simp
  rw[<-ad.o.2.2.2.1];refine q.o _ _ (bs) (fun aL=>?_);clear q H;refine Wl.r 2 (fun H q=>?_);go_simp
  refine bt.o.mono ?_;rintro e J ⟨rfl,aG⟩;obtain⟨bv,b0,bx,bz⟩:=bu.o J aG;have ar:=Y3 bv b0 bx;refine q.o _ _ (bz) (fun aw=>?_);clear q H;refine Wl.i [9] (Wl.t aw (Wl.o ?_));refine Wl.d ?_;clear av aL aw aZ bs bz bt bu aG bv bx;obtain⟨b,A,-,-,-,-⟩:=ad.o;have hth:=xj ar.o.2.2 jJ;by_cases a8:crcC y=sm
  rotate_left
  .rw [if_neg a8]at b;have q1:((crcC y:Int)==(sm:Int))=false:=by simpa using fun e=>a8 oM
   have q2:((crcC y:Int) !=(sm:Int))=true:=by simp[bne,q1]
   obtain⟨s,D⟩:=xR ar.o.1.1 ar.o.1.2 A G.o.2.2 G.o.1 G.o.2.1 (bkC v);have an:=Y3 s D b;clear s D b A b0 a8;go_wp2_with (first
    |(refine zX rfl rfl aa.o.2 ?_)
    |(refine qZc rfl _ _ _ rfl _ _ (bkC v).toArray rfl rfl oJ oN (qYo (zu _)) ?_)
    |fail)
   obtain⟨s,D,b⟩:=an.o;refine qYq (zp rfl _ _ m 0 (bkC v) _ rfl (qYl _ _ _ _ oR) underlying54 rfl (zv v hZl)) rfl ?_;rw[b];exact⟨v,13,aa.o.1,rfl,hZl,rfl,K,s,D⟩
  rw[if_pos a8]at b;have q1:((crcC y:Int)==(sm:Int))=true:=by rw[a8];simp
  have q2:((crcC y:Int) !=(sm:Int))=false:=by simp[bne,q1]
  obtain⟨s,D⟩:=xR ar.o.1.1 ar.o.1.2 A G.o.2.2 G.o.1 G.o.2.1 (bkC y);have an:=Y3 s D b;clear s D b A a8;go_wp2_with (first
   |(refine qZa rfl _ _ rfl _ _ rfl _ _ b0 underlying54 rfl (zv y hyl) ?_)
   |(refine qZc rfl _ _ _ rfl _ _ (bkC y).toArray rfl rfl jv oL (qYo (zu _)) ?_)
   |fail)
  obtain⟨s,D,b⟩:=an.o;refine qYq (zp rfl _ _ m 0 (bkC y) _ rfl (qYl _ _ _ _ jE) underlying54 rfl (zv y hyl)) rfl ?_;rw[b];exact⟨y,0,rfl,rfl,hyl,rfl,K,s,D⟩):P:=h
theorem zaZ(h:CaAt own w c n p a)(k:Int):
  Calls prog 145 #[ptr c,.int .i64 k] w (VD own w c n p (a.j9 n k).1 (a.j9 n k).2.1 (a.j9 n k).2.2):=by
 obtain⟨cH,b⟩:=qqe (a.j9 n k);rw[<-b];unfold CaS.j9 at b;obtain⟨w1,bB⟩:=qqe (w.alloc (.cells (bkC zB).toArray 54));have bU:=qqu bB;have bV:=qqg bB;obtain⟨m,bW⟩:=qqe (w.heap.size);have c9:own m=0:=h.far _ oM;rw[<-bW]at bV;have h1:=h.new bU;have cb:=h.j3 bU;have cy:=h.clt;have b5:=Y3 h.nib.lt h.tur.lt bW;have cc:=qqh (VE h1 k);obtain⟨-,-,-,-,ah,-,-,-,-⟩:=h.cells;have aH:=Y4 cb bV c9 b;have cz:=qqh bB;clear h1 h bU bV c9 cb bW bB b;obtain⟨v,bC⟩:=qqe (zB);have hZl:v.length=64:=by rw[bC];rfl
 have aa:=Y2 bC (xF v bC);clear bC;go_enter func145,ntmps145
 go_wp2_with fail
 rw[zcA,<-cz.o,<-b5.o.2.2];refine cc.o.mono ?_;rintro e cd ⟨rfl,own2,h2,bD⟩;have bX:=(bD.upd.block m (zd aH.o.2.1) (fun h=>h.1 aH.o.2.2.1)).trans aH.o.2.1;have au:own2 m=0:=(bD.old m (zd aH.o.2.1)).trans aH.o.2.2.1;have ce:=aH.o.1.trans bD;have b:=aH.o.2.2.2;have cf:m≠1:=fun e=>by have:=b5.o.1;have:=b5.o.2.2;omega
 have ch:m≠0:=fun e=>by have:=b5.o.2.1;have:=b5.o.2.2;omega
 have G:=Y3 cf ch (show w.heap.size<=m by have:=b5.o.2.2;omega);clear cc ah bD aH cf ch;generalize bE:getV a.ps k=cA at*;obtain⟨b9,cB⟩:=cA;simp only at b;obtain⟨bY,bG⟩:=qqe (cd.alloc (.cells #[.int .i64 b9,.bool cB] 231));have bH:=qqu bG;have R:=h2.new bH;have ax:=ce.trans (h2.j3 bH);have ab:=bH.jV bX;have b6:=qqg bG;have bI:=qqh bG;obtain⟨pb,bZ⟩:=qqe (cd.heap.size);have bJ:own2 pb=0:=h2.far _ oM;rw[<-bZ]at b6;have ba:pb≠m:=by have:=zd bX;omega
 have cC:=qqh bZ;have cI:=h2.clt;obtain⟨cJ,cK,-,-,-,-,-,-,-⟩:=h2.cells;clear h2 ce bX bH bG bZ cy;generalize T:getC a.ps k=U at*;by_cases bK:U=14
 .subst bK;rw[if_pos rfl]at b;obtain⟨bb,rfl,bL⟩:∃bb:Nat,k=(bb:Int)/\bb<a.bF.length:=by
   have h1:=R.pl;have h2:=R.gl;unfold getC at T;split at T
   .cases T
   .exact ⟨k.toNat,oM,oM⟩
  have ci:=qqh (Yf R bb bL);have ad:=Y4 ax ab au b;clear R ax ab au b b6 T bE bJ bL ba;go_wp2_with fail
  rw[<-bI.o];refine ci.out.mono ?_;rintro e aM ⟨y,U,hy,j,hyl,rfl,K,V,ae⟩;obtain⟨ax,ab,au,b⟩:=ad.o;have Z:=(ae.upd.block m (zd ab) (fun h=>h.1 au)).trans ab;have hth:=xj Z jJ;have A:K m=0:=(ae.old m (zd ab)).trans au;obtain⟨Q,W⟩:=xR V (ax.trans ae) A G.o.2.2 G.o.1 G.o.2.1 (bkC y);have c0:=Y6 Q W b hy j hyl;clear V ae ax ab au b Z A Q W ci ad hy j;go_wp2_with (first
   |(refine qZc rfl _ _ _ rfl _ _ (bkC y).toArray rfl rfl jv oL (qYo (zu _)) ?_)
   |fail)
  obtain⟨Q,W,b,hy,j,-⟩:=c0.o;refine qYq (zp rfl _ _ m 0 (bkC y) _ rfl (qYl _ _ _ _ jE) underlying54 rfl (zv y hyl)) rfl ?_;rw[b];exact⟨y,U,by rw[hy];rfl,j,hyl,rfl,K,Q,W⟩
 by_cases ai:U=0
 rotate_left
 .rw [if_neg bK,if_pos ai]at b;have cj:(U==14)=false:=by simpa using bK
  have q1:(U==0)=false:=by simpa using ai
  have hth:=xj ab jJ;obtain⟨Q,W⟩:=xR R ax au G.o.2.2 G.o.1 G.o.2.1 (bkC v);have c0:=Y3 Q W b;clear R ax ab au b b6 T bE bJ Q W;rw[bI.o]at hth;go_wp2_with (first
   |(refine zX rfl rfl aa.o.2 ?_)
   |(refine qZc rfl _ _ _ rfl _ _ (bkC v).toArray rfl rfl oJ oN (qYo (zu _)) ?_)
   |fail)
  obtain⟨Q,W,b⟩:=c0.o;rw[<-bI.o]at hth⊢;refine qYq (zp rfl _ _ m 0 (bkC v) _ rfl (qYl _ _ _ _ oR) underlying54 rfl (zv v hZl)) rfl ?_;rw[b];exact⟨v,U,aa.o.1,rfl,hZl,rfl,own2,Q,W⟩
 subst ai;rw[if_neg de,if_neg de]at b;unfold CaS.readS at b;obtain⟨cL,cM,co,-,-⟩:=R.ix;obtain⟨bb,bL,c3,cp,cq,bM⟩:=sW co.good T;rw[bE]at bM;have cN:0<=b9:=by have e:=congrArg Prod.fst bM;simp only at e;rw[e];exact cp
 have cO:b9<(n.sl:Int):=by have e:=congrArg Prod.fst bM;simp only at e;rw[e];exact cq
 clear co cp cq bM bE T bK;obtain⟨aI,rfl⟩:∃aI:Nat,b9=(aI:Int):=⟨b9.toNat,oM⟩
 rw[qxs]at b;have af:k<4096:=by have h1:=R.pl;have h2:=R.ok.b2;rw[c3];omega
 have ag:0<=k:=by rw[c3];omega
 clear bL c3;have cr:=R.fl;have cD:=R.ok.z;have aN:n.ke+aI<a.dF.length:=by unfold CaN.size at cr;unfold CaN.ke;omega
 have cE:n.ke+aI<8192:=oM;obtain⟨bN,bO⟩:=qqe (n.ke+aI);have cP:IntKind.i64.wrap ((n.ke:Int)+(aI:Int))=(bN:Int):=by rw[bO,qxr];exact qxt _ oM
 have cQ:Hid ((n.ke:Int)+(aI:Int)=(bN:Int)):=by show _=_;rw[bO,qxr]
 rw[<-bO]at b aN;obtain⟨ct,-,-,-,-,-,-,-,-⟩:=R.cells;obtain⟨-,-,-,bP⟩:=R.lay;have bP:bY.cell? ⟨c,12,none⟩=some (.int .i64 (n.ke:Int)):=by rw[bP];congr 2
 have c4:=za b6 0;simp at c4;have cF:=zd b6;have cG:=zd ab;have E:=((uur (fun _=>False) bY).drew)
 obtain⟨bc,c5⟩:=qqe (bY.drew);rw[<-c5]at E;have a6:=R.new E;have ay:=ax.trans (R.j3 E);have gd:=E.jV ab;have bd:=E.jU c4 id;have bQ:=E.jU ct id;have bR:=E.jU bP id;have j:=a6.clt;have X:own2 m=0/\own2 pb=0:=⟨au,bJ⟩
 have bS:=Y10 a6 ay gd X b aN ba ag af c5;have cR:pb<bc.heap.size:=by have:=E.size;omega
 have cu:m<bc.heap.size:=by have:=E.size;omega
 clear R ax ab au bJ b6 b cr cD aN cE bO cF cG E a6 ay gd X ba ag af ct bP c4 c5;go_upto_region 8 with fail
 rw[<-bI.o,<-cC.o];refine qZd (S:=fun aj=>aj.cell? ⟨c,14,none⟩=some (ptr p.ssd)/\aj.cell? ⟨c,12,none⟩=some (.int .i64 (n.ke:Int))/\aj.cell? ⟨pb,0,none⟩=some (.int .i64 (aI:Int))) kR (by rw[<-bS.o.2.2.2.2.2.2.2.2.2];exact⟨bQ,bR,bd⟩) (fun av=>?_);rw[<-bS.o.2.2.2.2.2.2.2.2.2]at av⊢;refine Wl.i [0,1,2,3,4,5,6,7,8,9,10,11] ?_;iterate 12 refine Wl.t av ?_
 refine Wl.o ?_;refine qYy (rs:=[12,16]) kR oe ?_;refine qxb rfl (fun H q=>?_) (qxb rfl (fun H q=>?_) qxc)
 .go_simp
  obtain⟨a6,ay,gd,X,b,aN,ba,ag,af,-⟩:=bS.o;refine(tZ a6 bN aN).mono ?_;rintro e aM ⟨y,U,hy,j,hyl,rfl,K,V,ae⟩;have aO:=Y2 hy j;clear hy j;have Z:=(ae.upd.block m cu (fun h=>h.1 X.1)).trans gd;have ah:=ay.trans ae;have A:K m=0:=(ae.old m cu).trans X.1;obtain⟨b7,-,-,-,-,-,-,-,-⟩:=V.cells;obtain⟨-,-,-,aJ⟩:=V.lay;have aJ:aM.cell? ⟨c,12,none⟩=some (.int .i64 (n.ke:Int)):=by rw[aJ];congr 2
  have aP:=ae.upd.jU bd (fun h=>h.1 X.2);obtain⟨az,bT⟩:=qqe (aM.alloc (.cells (bkC v).toArray 54));have aQ:=qqu bT;obtain⟨g,aK⟩:=qqe (aM.heap.size);have be:az.heap[g]?=some (.cells (bkC v).toArray 54 (0,0)):=by rw[bT,aK];exact zc aM _ rfl
  have Q:=V.new aQ;have W:=ah.trans (V.j3 aQ);have aR:=aQ.jV Z;have aS:K g=0:=V.far g oM;have ak:w.heap.size<=g:=by have:=ah.upd.size;omega
  have bf:g≠pb:=by have:=ae.upd.size;omega
  have a7:g≠m:=by have:=ae.upd.size;omega
  have T:g≠c:=by have:=V.clt;omega
  have aT:g≠1/\g≠0:=by have h1:=V.nib.lt;have h2:=V.tur.lt;constructor<;>omega
  have aU:=aQ.jU b7 id;have aA:=aQ.jU aJ id;have aV:=aQ.jU aP id;have bg:=Y2 bT aK;clear bT aK aQ V ah ae Z X gd ay a6;refine q.o _ _ (⟨b7,aJ,aP⟩) (fun aL=>?_);clear q H;refine Wl.i [13,14,15] ?_;iterate 3 refine Wl.t aL ?_
  refine Wl.o ?_;refine Wl.r 16 (fun H q=>?_);refine rv rfl _ rfl _ (uj v aa.o.1) ?_;rw[<-bg.o.1,<-bg.o.2];simp only[Act.put,qXd];refine q.o _ _ (⟨aU,aA,aV⟩) (fun aw=>?_);clear q H;refine Wl.r 17 (fun H q=>?_);rw[if_pos oA];have aW:=xj be jK;obtain⟨F,L⟩:=xR Q W aS ak aT.1 aT.2 (bkC y);have Y:(az.setCells g 0 (bkC y)).rangeAt g 0 (bkC y):=qYl _ _ _ _ (by rw[zn,hyl];exact aW);have am:=zo az g 0 (bkC y);have M:=(am.block m (zd aR) (fun e=>a7 e.symm)).trans aR;have bh:=am.jU aU (fun e=>T e.symm);have bi:=am.jU aA (fun e=>T e.symm);have bj:=am.jU aV (fun e=>bf e.symm);refine qZe _ _ _ rfl _ _ (bkC y).toArray rfl rfl (by rw[zm _ hyl];exact aW) oL (qYo (zu _)) ?_;simp only[Act.put];exact Zcg23
 .refine rv rfl _ rfl _ (uj v aa.o.1) ?_;simp only[Act.put,qXd];obtain⟨a6,ay,gd,X,b,aN,ba,ag,af,-⟩:=bS.o;obtain⟨aM,bA⟩:=qqe (bc.alloc (.cells (bkC v).toArray 54));have b1:=qqu bA;obtain⟨g,aK⟩:=qqe (bc.heap.size);have b3:aM.heap[g]?=some (.cells (bkC v).toArray 54 (0,0)):=by rw[bA,aK];exact zc bc _ rfl
  rw[<-bA,<-aK];have b7:=b1.jU bQ id;have aJ:=b1.jU bR id;have aP:=b1.jU bd id;have V:=a6.new b1;have ah:=ay.trans (a6.j3 b1);have Z:=b1.jV gd;have b8:own2 g=0:=a6.far g oM;have ak:w.heap.size<=g:=by have:=ay.upd.size;omega
  have bf:g≠pb:=oM;have a7:g≠m:=oM;have T:g≠c:=oM;have aT:g≠1/\g≠0:=by have h1:=a6.nib.lt;have h2:=a6.tur.lt;constructor<;>omega
  have cv:=qqh (tZ V bN aN);have cx:=Y6 ah Z b3 b8 X b;have bg:=Y2 bA aK;clear bA aK b1 V ah Z b3 b8 X b ay gd a6;refine q.o _ _ (⟨b7,aJ,aP⟩) (fun aL=>?_);clear q H;refine Wl.r 12 (fun H q=>?_);go_simp
  refine cv.o.mono ?_;rintro e az ⟨y,U,hy,j,hyl,rfl,K,Q,b4⟩;have aO:=Y2 hy j;clear hy j cv;obtain⟨ah,Z,b3,b8,X,b⟩:=cx.o;have aR:=(b4.upd.block m (zd Z) (fun h=>h.1 X.1)).trans Z;have be:=(b4.upd.block g (zd b3) (fun h=>h.1 b8)).trans b3;have W:=ah.trans b4;have A:K m=0:=(b4.old m (zd Z)).trans X.1;have aS:K g=0:=(b4.old g (zd b3)).trans b8;obtain⟨aU,-,-,-,-,-,-,-,-⟩:=Q.cells;obtain⟨-,-,-,aA⟩:=Q.lay;have aA:az.cell? ⟨c,12,none⟩=some (.int .i64 (n.ke:Int)):=by rw[aA];congr 2
  have aV:=b4.upd.jU aP (fun h=>h.1 X.2);clear ah Z b3 b8 X b4 cx;refine q.o _ _ (⟨aU,aA,aV⟩) (fun aw=>?_);clear q H;refine Wl.i [13,14,15] ?_;iterate 3 refine Wl.t aw ?_
  refine Wl.o ?_;refine Wl.r 17 (fun H q=>?_);rw[if_pos oA];have aW:=xj be jK;obtain⟨F,L⟩:=xR Q W aS ak aT.1 aT.2 (bkC y);have Y:(az.setCells g 0 (bkC y)).rangeAt g 0 (bkC y):=qYl _ _ _ _ (by rw[zn,hyl];exact aW);have am:=zo az g 0 (bkC y);have M:=(am.block m (zd aR) (fun e=>a7 e.symm)).trans aR;have bh:=am.jU aU (fun e=>T e.symm);have bi:=am.jU aA (fun e=>T e.symm);have bj:=am.jU aV (fun e=>bf e.symm);refine qZe _ _ _ rfl _ _ (bkC y).toArray rfl rfl (by rw[zm _ hyl];exact aW) oL (qYo (zu _)) ?_;simp only[Act.put,qXd];exact Zcg23
end
end Go.Proofs.YtbnpkobbnjihjaaGreatDoor
