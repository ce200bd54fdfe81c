/- A cache: Read. -/
import Derived.Test.YtpejdgiccaijfaaGreatDoorG22
set_option maxRecDepth 100000
set_option maxHeartbeats 2000000
namespace Go.Proofs.YtpejdgiccaijfaaGreatDoor
open Go Go.RowKit Tryz
variable{k s:Nat}{ps:List (Int×Bool)}{P:List Int}
def CaS.readS(n:CaN)(a:CaS)(k:Int)(s:Nat):CaS×Bk×Int:=
 if fate a.dP=1 then({a with dP:=a.dP.tail},zB,19)
 else if crcC (curB a.dF a.dO (n.kx+s))=(a.sums k).getD 0 then({a with dP:=a.dP.tail},curB a.dF a.dO (n.kx+s),0)else({a with dP:=a.dP.tail},zB,13)
def CaS.kw(n:CaN)(a:CaS)(k:Int):CaS×Bk×Int:=
 if getC a.ps k=14 then({a with bP:=a.bP.tail},(if fate a.bP=1 then zB else curB a.bF a.bO k.toNat),(if fate a.bP=1 then 19 else 0))
 else if getC a.ps k≠0 then(a,zB,getC a.ps k)else a.readS n k (getV a.ps k).1.toNat
section
variable{own own2:Nat->Nat}{w w' W2:World}{c m:Nat}{n:CaN}{p:CaP}{a:CaS}{N:Nat}
theorem wm(h:CaAt own2 W2 c n p a)(d:Did own own2 w W2)(q:own2 m=0)(A:w.heap.size<=m)(h1:m≠0)(h2:m≠1)(cs:List Value):CaAt own2 (W2.setCells m 0 cs) c n p a/\Did own own2 w (W2.setCells m 0 cs):=
 ⟨h.ky (zn W2 m 0 cs) (fun j e=>by subst e;exact⟨q,h1,h2⟩),⟨d.upd.new (zn W2 m 0 cs) (fun i D e=>oM),d.old,d.new,fun j E=>d.far j (by have:=(zn W2 m 0 cs).size;omega)⟩⟩
theorem xp{W:World}{g:Nat}{cs:List Value}{t:TypeId}(h:W.heap[g]?=some (.cells cs.toArray t (0,0)))(j:cs.length=64):W.there g 0 64:=fun q A=>by
 rw[za h,zf h];exact⟨by rw[qXy,qxe (by simp[j];omega)];rfl,rfl⟩
theorem Zcg25{P:Prop}(h:P:=by
  refine A.o _ _ (⟨bn,bp,bq⟩) (fun br=>?_);clear A K;refine Wl.r 18 (fun K A=>?_);go_simp
  refine A.o _ _ (br) (fun _=>?_);clear A K;refine Wl.d ?_;obtain⟨b1,bs⟩:=qqe (aD.setCells g 0 (bkC y));rw[<-bs]at J Q a8 T⊢;have aF:O g=0:=aW;have aG:=Y13 J Q a8 T F j aS.o.1 aS.o.2 aF ap ad ak aj;clear J Q a8 T F j aS aF aW ap ad bi aX ak aj V a6 bh aV aY aE aZ bb aN aT bn bp bq aq b0 bs az aP aA br bj X bW bX bg;by_cases an:Y=0
  rotate_left
  .have cu:(Y==0)=false:=by simpa using an
   obtain⟨J,Q,-,T,F,j,hy,q,-⟩:=aG.o;have U:fate a.dP=1:=by
    refine Decidable.byContradiction fun U=>?_;rw[if_neg U]at q;exact an q
   rw[if_pos U]at j q;have hth:=xp T jW;obtain⟨D,G⟩:=wm J Q F L.o.2.2 L.o.1 L.o.2.1 (bkC E);have ar:=Y4 D G j q;clear J Q T F j hy q D G U aG;go_wp2_with (first
    |(refine zY rfl rfl af.o.2 ?_)
    |(refine qZb rfl _ _ _ rfl _ _ (bkC E).toArray rfl rfl oR oV (qYo (zx _)) ?_)
    |fail)
   obtain⟨D,G,j,q⟩:=ar.o;refine qYq (zp rfl _ _ m 0 (bkC E) _ rfl (qYl _ _ _ _ oZ) underlying60 rfl (zu E hZl)) rfl ?_;rw[j];exact⟨E,Y,af.o.1,q,hZl,rfl,O,D,G⟩
  subst an;obtain⟨J,Q,a8,T,F,j,hy,q,aF,ap,ad,ak,aj⟩:=aG.o;have U:¬fate a.dP=1:=fun U=>by rw[if_pos U]at q;cases q
  rw[if_neg U]at j hy;rw[<-hy]at j;have H:=((uur (fun _=>False) b1).drew)
  obtain⟨cd,b3⟩:=qqe (b1.drew);rw[<-b3]at H;obtain⟨bt,aH⟩:=qqe (cd.alloc (.cells #[.slice (some ⟨g,0,none⟩) 64 64] 269));have au:=qqu aH;have bu:=qqg aH;have D:=J.new H;have bv:=D.new au;have bx:=au.range (H.range a8 id) id;obtain⟨sm,aI⟩:=qqe ((a.sums k).getD 0);rw[<-aI]at j;have aJ:∀av,Upd (fun _=>False) b1 av->av.cell? ⟨c,22,none⟩=some (.map (some p.sm))/\(Instr.lookup 168 (.map (some p.sm)) (.int .i64 k) false).run prog av=.ok (.int .i64 (sm:Int)) av:=by
   intro av ce;have bz:=J.new ce;obtain⟨-,-,-,-,-,-,-,-,cf⟩:=bz.cells;refine⟨cf,?_⟩;rw[aI];exact bz.sm.1.look1 oM oM
  have b4:=aJ _ H;have bA:=aJ _ (H.trans au);have bB:=qqh (uQ (cl:=1) y bv.nib (za bu 0) bx hyl oM oM);have bC:Hid (∀M,Below bt.heap.size bt M->(CaAt O M c n p {a with dP:=a.dP.tail}/\Did own O w M)/\M.rangeAt g 0 (bkC y)/\M.heap[m]?=some (.cells (bkC zB).toArray 60 (0,0))/\(M.cell? ⟨c,22,none⟩=some (.map (some p.sm))/\(Instr.lookup 168 (.map (some p.sm)) (.int .i64 k) false).run prog M=.ok (.int .i64 (sm:Int)) M)):=by
   intro M aK;have aw:=(H.trans au).trans (uuo (S:=fun _=>False) aK);exact⟨⟨J.new aw,Q.trans (J.ko aw)⟩,aw.range a8 id,aw.j4 T,aJ _ aw⟩
  have ah:=Y6 j F b3 aH aI ad;clear J Q a8 T F j hy q aF ap ad U H au bu D bv bx aJ b3 aH aI aG ak aj;go_upto_region 11 with fail
  refine qZc (S:=fun ao=>ao.cell? ⟨c,22,none⟩=some (.map (some p.sm))/\(Instr.lookup 168 (.map (some p.sm)) (.int .i64 k) false).run prog ao=.ok (.int .i64 (sm:Int)) ao) kR (by rw[<-ah.o.2.2.1];exact b4) (fun _=>?_);rw[<-ah.o.2.2.1];have az:=b4;refine Wl.i [0,3,4,5,6,7,8] ?_;iterate 7 refine Wl.t az ?_
  refine Wl.o ?_;refine Wl.r 1 (fun K A=>?_);go_simp
  rw[<-ah.o.2.2.2.1];refine A.o _ _ (bA) (fun aP=>?_);clear A K;refine Wl.r 2 (fun K A=>?_);go_simp
  refine bB.o.mono ?_;rintro e M ⟨rfl,aK⟩;obtain⟨bD,b5,bE,bG⟩:=bC.o M aK;have ax:=Y3 bD b5 bE;refine A.o _ _ (bG) (fun aA=>?_);clear A K;refine Wl.i [9] (Wl.t aA (Wl.o ?_));refine Wl.d ?_;clear az aP aA b4 bA bG bB bC aK bD bE;obtain⟨j,F,-,-,-,-⟩:=ah.o;have hth:=xp ax.o.2.2 jW;by_cases ae:crcC y=sm
  rotate_left
  .rw [if_neg ae]at j;have q1:((crcC y:Int)==(sm:Int))=false:=by simpa using fun e=>ae oM
   have q2:((crcC y:Int) !=(sm:Int))=true:=by simp[bne,q1]
   obtain⟨D,G⟩:=wm ax.o.1.1 ax.o.1.2 F L.o.2.2 L.o.1 L.o.2.1 (bkC E);have ar:=Y3 D G j;clear D G j F b5 ae;go_wp2_with (first
    |(refine zY rfl rfl af.o.2 ?_)
    |(refine qZb rfl _ _ _ rfl _ _ (bkC E).toArray rfl rfl oR oV (qYo (zx _)) ?_)
    |fail)
   obtain⟨D,G,j⟩:=ar.o;refine qYq (zp rfl _ _ m 0 (bkC E) _ rfl (qYl _ _ _ _ oZ) underlying60 rfl (zu E hZl)) rfl ?_;rw[j];exact⟨E,13,af.o.1,rfl,hZl,rfl,O,D,G⟩
  rw[if_pos ae]at j;have q1:((crcC y:Int)==(sm:Int))=true:=by rw[ae];simp
  have q2:((crcC y:Int) !=(sm:Int))=false:=by simp[bne,q1]
  obtain⟨D,G⟩:=wm ax.o.1.1 ax.o.1.2 F L.o.2.2 L.o.1 L.o.2.1 (bkC y);have ar:=Y3 D G j;clear D G j F ae;go_wp2_with (first
   |(refine qYz rfl _ _ rfl _ _ rfl _ _ b5 underlying60 rfl (zu y hyl) ?_)
   |(refine qZb rfl _ _ _ rfl _ _ (bkC y).toArray rfl rfl jE oU (qYo (zx _)) ?_)
   |fail)
  obtain⟨D,G,j⟩:=ar.o;refine qYq (zp rfl _ _ m 0 (bkC y) _ rfl (qYl _ _ _ _ jO) underlying60 rfl (zu y hyl)) rfl ?_;rw[j];exact⟨y,0,rfl,rfl,hyl,rfl,O,D,G⟩):P:=h
theorem TF(h:CaAt own w c n p a)(k:Int):
  Calls prog 104 #[ptr c,.int .i64 k] w (VR own w c n p (a.kw n k).1 (a.kw n k).2.1 (a.kw n k).2.2):=by
 obtain⟨R,j⟩:=qqe (a.kw n k);rw[<-j];unfold CaS.kw at j;obtain⟨w1,bI⟩:=qqe (w.alloc (.cells (bkC zB).toArray 60));have c0:=qqu bI;have c3:=qqg bI;obtain⟨m,c4⟩:=qqe (w.heap.size);have ch:own m=0:=h.far _ oM;rw[<-c4]at c3;have h1:=h.new c0;have ci:=h.ko c0;have cE:=h.clt;have b9:=Y3 h.nib.lt h.tur.lt c4;have cj:=qqh (YE h1 k);obtain⟨-,-,-,-,am,-,-,-,-⟩:=h.cells;have aL:=Y4 ci c3 ch j;have cF:=qqh bI;clear h1 h c0 c3 ch ci c4 bI j;obtain⟨E,bJ⟩:=qqe (zB);have hZl:E.length=64:=by rw[bJ];rfl
 have af:=Y2 bJ (xO E bJ);clear bJ;go_enter func104,ntmps104
 go_wp2_with fail
 rw[zcm,<-cF.o,<-b9.o.2.2];refine cj.o.mono ?_;rintro e co ⟨rfl,own2,h2,bK⟩;have c5:=(bK.upd.block m (zd aL.o.2.1) (fun h=>h.1 aL.o.2.2.1)).trans aL.o.2.1;have ay:own2 m=0:=(bK.old m (zd aL.o.2.1)).trans aL.o.2.2.1;have cp:=aL.o.1.trans bK;have j:=aL.o.2.2.2;have cq:m≠0:=fun e=>by have:=b9.o.1;have:=b9.o.2.2;omega
 have cr:m≠1:=fun e=>by have:=b9.o.2.1;have:=b9.o.2.2;omega
 have L:=Y3 cq cr (show w.heap.size<=m by have:=b9.o.2.2;omega);clear cj am bK aL cq cr;generalize bL:getV a.ps k=cG at*;obtain⟨s,cH⟩:=cG;simp only at j;obtain⟨c6,bM⟩:=qqe (co.alloc (.cells #[.int .i64 s,.bool cH] 256));have bN:=qqu bM;have W:=h2.new bN;have aB:=cp.trans (h2.ko bN);have ag:=bN.j4 c5;have ba:=qqg bM;have bO:=qqh bM;obtain⟨pb,c7⟩:=qqe (co.heap.size);have bP:own2 pb=0:=h2.far _ oM;rw[<-c7]at ba;have bd:pb≠m:=by have:=zd c5;omega
 have cI:=qqh c7;have cN:=h2.clt;obtain⟨cO,cP,-,-,-,-,-,-,-⟩:=h2.cells;clear h2 cp c5 bN bM c7 cE;generalize X:getC a.ps k=Y at*;by_cases bQ:Y=14
 .subst bQ;rw[if_pos rfl]at j;obtain⟨be,rfl,bR⟩:∃be:Nat,k=(be:Int)/\be<a.bF.length:=by
   have h1:=W.pl;have h2:=W.gl;unfold getC at X;split at X
   .cases X
   .exact ⟨k.toNat,oM,oM⟩
  have ct:=qqh (YC W be bR);have ah:=Y4 aB ag ay j;clear W aB ag ay j ba X bL bP bR bd;go_wp2_with fail
  rw[<-bO.o];refine ct.out.mono ?_;rintro e aQ ⟨y,Y,hy,q,hyl,rfl,O,Z,ai⟩;obtain⟨aB,ag,ay,j⟩:=ah.o;have aa:=(ai.upd.block m (zd ag) (fun h=>h.1 ay)).trans ag;have hth:=xp aa jW;have F:O m=0:=(ai.old m (zd ag)).trans ay;obtain⟨V,a6⟩:=wm Z (aB.trans ai) F L.o.2.2 L.o.1 L.o.2.1 (bkC y);have c8:=Y6 V a6 j hy q hyl;clear Z ai aB ag ay j aa F V a6 ct ah hy q;go_wp2_with (first
   |(refine qZb rfl _ _ _ rfl _ _ (bkC y).toArray rfl rfl jE oU (qYo (zx _)) ?_)
   |fail)
  obtain⟨V,a6,j,hy,q,-⟩:=c8.o;refine qYq (zp rfl _ _ m 0 (bkC y) _ rfl (qYl _ _ _ _ jO) underlying60 rfl (zu y hyl)) rfl ?_;rw[j];exact⟨y,Y,by rw[hy];rfl,q,hyl,rfl,O,V,a6⟩
 by_cases an:Y=0
 rotate_left
 .rw [if_neg bQ,if_pos an]at j;have cu:(Y==14)=false:=by simpa using bQ
  have q1:(Y==0)=false:=by simpa using an
  have hth:=xp ag jW;obtain⟨V,a6⟩:=wm W aB ay L.o.2.2 L.o.1 L.o.2.1 (bkC E);have c8:=Y3 V a6 j;clear W aB ag ay j ba X bL bP V a6;rw[bO.o]at hth;go_wp2_with (first
   |(refine zY rfl rfl af.o.2 ?_)
   |(refine qZb rfl _ _ _ rfl _ _ (bkC E).toArray rfl rfl oR oV (qYo (zx _)) ?_)
   |fail)
  obtain⟨V,a6,j⟩:=c8.o;rw[<-bO.o]at hth⊢;refine qYq (zp rfl _ _ m 0 (bkC E) _ rfl (qYl _ _ _ _ oZ) underlying60 rfl (zu E hZl)) rfl ?_;rw[j];exact⟨E,Y,af.o.1,rfl,hZl,rfl,own2,V,a6⟩
 subst an;rw[if_neg de,if_neg de]at j;unfold CaS.readS at j;obtain⟨cQ,cR,cv,-,-⟩:=W.ix;obtain⟨be,bR,c9,cx,cy,bS⟩:=qa cv.good X;rw[bL]at bS;have cT:0<=s:=by have e:=congrArg Prod.fst bS;simp only at e;rw[e];exact cx
 have cU:s<(n.sl:Int):=by have e:=congrArg Prod.fst bS;simp only at e;rw[e];exact cy
 clear cv cx cy bS bL X bQ;obtain⟨aM,rfl⟩:∃aM:Nat,s=(aM:Int):=⟨s.toNat,oM⟩
 rw[qxt]at j;have aj:k<4096:=by have h1:=W.pl;have h2:=W.ok.b2;rw[c9];omega
 have ak:0<=k:=by rw[c9];omega
 clear bR c9;have cz:=W.fl;have cJ:=W.ok.z;have aR:n.kx+aM<a.dF.length:=by unfold CaN.size at cz;unfold CaN.kx;omega
 have cK:n.kx+aM<8192:=oM;obtain⟨bT,bU⟩:=qqe (n.kx+aM);have cV:IntKind.i64.wrap ((n.kx:Int)+(aM:Int))=(bT:Int):=by rw[bU,qxs];exact qxu _ oM
 have cW:Hid ((n.kx:Int)+(aM:Int)=(bT:Int)):=by show _=_;rw[bU,qxs]
 rw[<-bU]at j aR;obtain⟨cA,-,-,-,-,-,-,-,-⟩:=W.cells;obtain⟨-,-,-,bV⟩:=W.lay;have bV:c6.cell? ⟨c,12,none⟩=some (.int .i64 (n.kx:Int)):=by rw[bV];congr 2
 have cb:=za ba 0;simp at cb;have cL:=zd ba;have cM:=zd ag;have H:=((uur (fun _=>False) c6).drew)
 obtain⟨bf,cc⟩:=qqe (c6.drew);rw[<-cc]at H;have ab:=W.new H;have aC:=aB.trans (W.ko H);have gd:=H.j4 ag;have bg:=H.j3 cb id;have bW:=H.j3 cA id;have bX:=H.j3 bV id;have q:=ab.clt;have a7:own2 m=0/\own2 pb=0:=⟨ay,bP⟩
 have bY:=Y10 ab aC gd a7 j aR bd ak aj cc;have cX:pb<bf.heap.size:=by have:=H.size;omega
 have cB:m<bf.heap.size:=by have:=H.size;omega
 clear W aB ag ay bP ba j cz cJ aR cK bU cL cM H ab aC gd a7 bd ak aj cA bV cb cc;go_upto_region 8 with fail
 rw[<-bO.o,<-cI.o];refine qZc (S:=fun ao=>ao.cell? ⟨c,14,none⟩=some (ptr p.ssd)/\ao.cell? ⟨c,12,none⟩=some (.int .i64 (n.kx:Int))/\ao.cell? ⟨pb,0,none⟩=some (.int .i64 (aM:Int))) kR (by rw[<-bY.o.2.2.2.2.2.2.2.2.2];exact⟨bW,bX,bg⟩) (fun az=>?_);rw[<-bY.o.2.2.2.2.2.2.2.2.2]at az⊢;refine Wl.i [0,1,2,3,4,5,6,7,8,9,10,11] ?_;iterate 12 refine Wl.t az ?_
 refine Wl.o ?_;refine qYx (rs:=[12,16]) kR oe ?_;refine qxb rfl (fun K A=>?_) (qxb rfl (fun K A=>?_) qxc)
 .go_simp
  obtain⟨ab,aC,gd,a7,j,aR,bd,ak,aj,-⟩:=bY.o;refine(qy ab bT aR).mono ?_;rintro e aQ ⟨y,Y,hy,q,hyl,rfl,O,Z,ai⟩;have aS:=Y2 hy q;clear hy q;have aa:=(ai.upd.block m cB (fun h=>h.1 a7.1)).trans gd;have am:=aC.trans ai;have F:O m=0:=(ai.old m cB).trans a7.1;obtain⟨bb,-,-,-,-,-,-,-,-⟩:=Z.cells;obtain⟨-,-,-,aN⟩:=Z.lay;have aN:aQ.cell? ⟨c,12,none⟩=some (.int .i64 (n.kx:Int)):=by rw[aN];congr 2
  have aT:=ai.upd.j3 bg (fun h=>h.1 a7.2);obtain⟨aD,bZ⟩:=qqe (aQ.alloc (.cells (bkC E).toArray 60));have aU:=qqu bZ;obtain⟨g,aO⟩:=qqe (aQ.heap.size);have bh:aD.heap[g]?=some (.cells (bkC E).toArray 60 (0,0)):=by rw[bZ,aO];exact zc aQ _ rfl
  have V:=Z.new aU;have a6:=am.trans (Z.ko aU);have aV:=aU.j4 aa;have aW:O g=0:=Z.far g oM;have ap:w.heap.size<=g:=by have:=am.upd.size;omega
  have bi:g≠pb:=by have:=ai.upd.size;omega
  have ad:g≠m:=by have:=ai.upd.size;omega
  have X:g≠c:=by have:=Z.clt;omega
  have aX:g≠0/\g≠1:=by have h1:=Z.nib.lt;have h2:=Z.tur.lt;constructor<;>omega
  have aY:=aU.j3 bb id;have aE:=aU.j3 aN id;have aZ:=aU.j3 aT id;have bj:=Y2 bZ aO;clear bZ aO aU Z am ai aa a7 gd aC ab;refine A.o _ _ (⟨bb,aN,aT⟩) (fun aP=>?_);clear A K;refine Wl.i [13,14,15] ?_;iterate 3 refine Wl.t aP ?_
  refine Wl.o ?_;refine Wl.r 16 (fun K A=>?_);refine sa rfl _ rfl _ (uB E af.o.1) ?_;rw[<-bj.o.1,<-bj.o.2];simp only[Act.put,qXe];refine A.o _ _ (⟨aY,aE,aZ⟩) (fun aA=>?_);clear A K;refine Wl.r 17 (fun K A=>?_);rw[if_pos oE];have b0:=xp bh jX;obtain⟨J,Q⟩:=wm V a6 aW ap aX.1 aX.2 (bkC y);have a8:(aD.setCells g 0 (bkC y)).rangeAt g 0 (bkC y):=qYl _ _ _ _ (by rw[zm,hyl];exact b0);have aq:=zn aD g 0 (bkC y);have T:=(aq.block m (zd aV) (fun e=>ad e.symm)).trans aV;have bn:=aq.j3 aY (fun e=>X e.symm);have bp:=aq.j3 aE (fun e=>X e.symm);have bq:=aq.j3 aZ (fun e=>bi e.symm);refine qZd _ _ _ rfl _ _ (bkC y).toArray rfl rfl (by rw[zo _ hyl];exact b0) oU (qYo (zx _)) ?_;simp only[Act.put];exact Zcg25
 .refine sa rfl _ rfl _ (uB E af.o.1) ?_;simp only[Act.put,qXe];obtain⟨ab,aC,gd,a7,j,aR,bd,ak,aj,-⟩:=bY.o;obtain⟨aQ,bH⟩:=qqe (bf.alloc (.cells (bkC E).toArray 60));have b6:=qqu bH;obtain⟨g,aO⟩:=qqe (bf.heap.size);have b7:aQ.heap[g]?=some (.cells (bkC E).toArray 60 (0,0)):=by rw[bH,aO];exact zc bf _ rfl
  rw[<-bH,<-aO];have bb:=b6.j3 bW id;have aN:=b6.j3 bX id;have aT:=b6.j3 bg id;have Z:=ab.new b6;have am:=aC.trans (ab.ko b6);have aa:=b6.j4 gd;have bc:own2 g=0:=ab.far g oM;have ap:w.heap.size<=g:=by have:=aC.upd.size;omega
  have bi:g≠pb:=oM;have ad:g≠m:=oM;have X:g≠c:=oM;have aX:g≠0/\g≠1:=by have h1:=ab.nib.lt;have h2:=ab.tur.lt;constructor<;>omega
  have cC:=qqh (qy Z bT aR);have cD:=Y6 am aa b7 bc a7 j;have bj:=Y2 bH aO;clear bH aO b6 Z am aa b7 bc a7 j aC gd ab;refine A.o _ _ (⟨bb,aN,aT⟩) (fun aP=>?_);clear A K;refine Wl.r 12 (fun K A=>?_);go_simp
  refine cC.o.mono ?_;rintro e aD ⟨y,Y,hy,q,hyl,rfl,O,V,b8⟩;have aS:=Y2 hy q;clear hy q cC;obtain⟨am,aa,b7,bc,a7,j⟩:=cD.o;have aV:=(b8.upd.block m (zd aa) (fun h=>h.1 a7.1)).trans aa;have bh:=(b8.upd.block g (zd b7) (fun h=>h.1 bc)).trans b7;have a6:=am.trans b8;have F:O m=0:=(b8.old m (zd aa)).trans a7.1;have aW:O g=0:=(b8.old g (zd b7)).trans bc;obtain⟨aY,-,-,-,-,-,-,-,-⟩:=V.cells;obtain⟨-,-,-,aE⟩:=V.lay;have aE:aD.cell? ⟨c,12,none⟩=some (.int .i64 (n.kx:Int)):=by rw[aE];congr 2
  have aZ:=b8.upd.j3 aT (fun h=>h.1 a7.2);clear am aa b7 bc a7 b8 cD;refine A.o _ _ (⟨aY,aE,aZ⟩) (fun aA=>?_);clear A K;refine Wl.i [13,14,15] ?_;iterate 3 refine Wl.t aA ?_
  refine Wl.o ?_;refine Wl.r 17 (fun K A=>?_);rw[if_pos oE];have b0:=xp bh jX;obtain⟨J,Q⟩:=wm V a6 aW ap aX.1 aX.2 (bkC y);have a8:(aD.setCells g 0 (bkC y)).rangeAt g 0 (bkC y):=qYl _ _ _ _ (by rw[zm,hyl];exact b0);have aq:=zn aD g 0 (bkC y);have T:=(aq.block m (zd aV) (fun e=>ad e.symm)).trans aV;have bn:=aq.j3 aY (fun e=>X e.symm);have bp:=aq.j3 aE (fun e=>X e.symm);have bq:=aq.j3 aZ (fun e=>bi e.symm);refine qZd _ _ _ rfl _ _ (bkC y).toArray rfl rfl (by rw[zo _ hyl];exact b0) oU (qYo (zx _)) ?_;simp only[Act.put,qXe];exact Zcg25
end
section
variable{n:CaN}{a:CaS}{N:Nat}
theorem CaS.takeR_next(n:CaN)(a:CaS)(s:Int):a.next<=(a.kF n s).1.next:=by
 have h:=(a.j8 n).1;unfold CaS.kF;split
 .show a.next<=(a.j7 n).1.next;omega
 .show a.next<=(a.j7 n).1.next;omega
theorem CaS.take2_next(n:CaN)(a:CaS):a.next<=(a.kH n).1.next:=by
 have h:=(a.committed_next n).1;unfold CaS.kH;split
 .exact qXp _
 .unfold CaS.take3;split
  .show a.next<=(a.j9 n).1.next;omega
  split
  .show a.next<=(a.j9 n).1.next;omega
  .exact qXr (by show a.next<=(a.j9 n).1.next;omega) ((a.j9 n).1.al.takeR_next n _)
theorem CaS.takes_next(n:CaN)(a:CaS):a.next<=(a.kq n).1.next:=by
 have h:=CaS.evicts_next n 1 0 a.al;unfold CaS.kq;split
 .exact a.al.takeR_next n _
 .unfold CaS.take1;split
  .split
   .exact h
   .exact qXr h ((CaS.kv n 1 0 a.al).1.take2_next n)
  .exact a.al.take2_next n
theorem CaS.Fit.kE(h:a.Fit N)(A:a.Jg n)(h1:1<=a.next)(D:4<=n.jo)(k:Nat)(x:Bk):(a.kE n k x).1.Fit (N+3*n.pa+n.jo+6):=by
 have j:=h.takes' A h1 D;have E:=a.takes_next n;unfold CaS.kE;split
 .exact j.mono oM
 split
 .exact (j.kt oM k x).mono oM
 .have q:=j.ku (n:=n) (a.kq n).2.1.toNat (k:Int) x;have F:=(xX n (a.kq n).1 (a.kq n).2.1.toNat (k:Int) x).1;unfold CaS.backS;split
  .exact q.mono oM
  .exact (q.kz oM (k:Int) _ (crcC x) true (by have:=uP x;omega)).mono oM
theorem CaS.Fit.thru(h:a.Fit N)(E:a.Jg n)(h1:1<=a.next)(F:4<=n.jo)(k:Nat)(x:Bk):(a.thru n k x).1.Fit (N+3*n.pa+n.jo+6):=by
 have q:=h.takes' E h1 F;have G:=a.takes_next n;unfold CaS.thru;split
 .exact q.mono oM
 split
 .exact (q.kt oM k x).mono oM
 .have A:=q.bw k x;unfold CaS.thruS;split
  .exact (A.turned _).mono oM
  .have D:=A.ku (n:=n) (a.kq n).2.1.toNat (k:Int) x;have j:=(xX n ((a.kq n).1.kB (writeR (a.kq n).1.bF (a.kq n).1.bO (a.kq n).1.bP k x)) (a.kq n).2.1.toNat (k:Int) x).1;replace j:_=(a.kq n).1.next:=j;unfold CaS.thruF;split
   .exact (D.byp (by rw[j];omega) k).mono oM
   .exact (D.kz (by rw[j];omega) (k:Int) _ (crcC x) false (by have:=uP x;omega)).mono oM
theorem CaS.Fit.kG(h:a.Fit N)(j:a.Jg n)(h1:1<=a.next)(q:4<=n.jo)(k:Int)(x:Bk)(A:Int):(a.kG n k x A).1.Fit (N+3*n.pa+n.jo+6):=by
 unfold CaS.kG;split
 .exact h.mono oM
 split
 .exact h.mono oM
 split
 .exact h.kE j h1 q _ x
 split
 .exact h.thru j h1 q _ x
 .exact (h.kt h1 _ x).mono oM
theorem CaS.Fit.gone(h:a.Fit N)(h1:1<=a.next)(k:Int):(a.gone n k).1.Fit (N+n.pa+2):=by
 unfold CaS.gone;split
 .exact h.mono oM
 .exact h.kt h1 _ _
theorem CaS.Tie.backS(h:a.Tie n (some s))(A:k<n.bl)(x:Bk):(a.backS n k s x).1.Tie n none:=by
 unfold CaS.backS;rcases CaS.Tie.ku h (k:Int) x with⟨q,j⟩|⟨q,j⟩
 .rw [if_neg oM];exact(CaS.Tie.put j A (crcC x) true).2.2
 .rw [if_pos q];exact j
theorem CaS.Tie.thruS(h:a.Tie n (some s))(A:k<n.bl)(x:Bk):(a.thruS n k s x).1.Tie n none:=by
 unfold CaS.thruS;split
 .exact (TieL.shut h (.inl rfl)).2
 .unfold CaS.thruF;have D:(a.kB (writeR a.bF a.bO a.bP k x)).Tie n (some s):=h;rcases CaS.Tie.ku D (k:Int) x with⟨q,j⟩|⟨q,j⟩
  .rw [if_neg oM];exact(CaS.Tie.put j A (crcC x) false).2.2
  .rw [if_pos q];exact CaS.Tie.byp j k
theorem CaS.Tie.kE(h:a.Tie n none)(h1:1<=a.next)(q:4<=n.jo)(A:k<n.bl)(x:Bk):(a.kE n k x).1.Tie n none:=by
 have D:=CaS.Tie.kq h h1 q;unfold CaS.kE;rcases D with⟨h2,F,-,s,E,j⟩|⟨h2,j⟩
 .rw [if_neg oM,if_neg jV,E,qxt];exact CaS.Tie.backS j A x
 .split
  .exact j
  .exact CaS.Tie.kt j k x
theorem CaS.Tie.thru(h:a.Tie n none)(h1:1<=a.next)(q:4<=n.jo)(A:k<n.bl)(x:Bk):(a.thru n k x).1.Tie n none:=by
 have D:=CaS.Tie.kq h h1 q;unfold CaS.thru;rcases D with⟨h2,F,-,s,E,j⟩|⟨h2,j⟩
 .rw [if_neg oM,if_neg jV,E,qxt];exact CaS.Tie.thruS j A x
 .split
  .exact j
  .exact CaS.Tie.kt j k x
theorem CaS.Tie.kG(h:a.Tie n none)(h1:1<=a.next)(j:4<=n.jo)(k:Int)(x:Bk)(q:Int):(a.kG n k x q).1.Tie n none:=by
 unfold CaS.kG;split
 .exact h
 next A=>
 split
 .exact h
 split
 .exact CaS.Tie.kE h h1 j oM x
 split
 .exact CaS.Tie.thru h h1 j oM x
 .exact CaS.Tie.kt h _ x
theorem CaS.Tie.gone(h:a.Tie n none)(k:Int):(a.gone n k).1.Tie n none:=by
 unfold CaS.gone;split
 .exact h
 .exact CaS.Tie.kt h _ _
end
theorem ua(n k:Nat):plc (List.replicate n (-1,false)) k=(-1,false):=by
 rw[plc,qyg,qyo];split<;>rfl
theorem vH(n s:Nat):(List.replicate n (0:Int)).getD s 0=0:=by
 rw[qyg,qyo];split<;>rfl
theorem ub(bl sl:Nat):TieL bl sl (List.replicate bl (-1,false)) (List.replicate sl 0) [] none:={
  hpl:=qze
  hsl:=qze
  good:=Good.start _ _
  live:=fun k _ h=>absurd (ua _ k) h
  used:=fun s _ h2=>by rw[vH]at h2;cases h2
  opn:=fun s _=>by rw[vH];simp
  rng:=fun s _=>by rw[vH];decide
  olt:=fun s j=>by cases j
  kk:=fun k=>by
   rw[zQ];constructor
   .intro j;cases j
   .rintro ⟨m,-,-,h⟩;exact absurd (ua _ m) h
  kd:=qzy}
theorem Ek(n:CaN):(zfn n).Tie n none:=(ub n.bl n.sl).freed
def Pl(P:List Int):Prop:=∀x∈P,x=0\/x=1
theorem Pl.tail(h:Pl P):Pl P.tail:=fun x hx=>h x (List.mem_of_mem_tail hx)
theorem Pl.fate(h:Pl P):fate P=0\/fate P=1:=by
 cases P with
 |nil=>exact .inl rfl
 |cons x P=>exact h x oe
theorem yw(F:List Bk)(O:List (Nat×Bk))(t:Nat)(y:Bk)(s:Nat):curB F (O++[(t,y)]) s=if t=s/\t<F.length then y else curB F O s:=by
 have e:flushF F (O++[(t,y)])=(flushF F O).set t y:=by simp[flushF]
 unfold curB;rw[e,yN,zI]
structure Kp(b:Nat)(F:List Bk)(O:List (Nat×Bk))(P:List Int)(r:DRes):Prop where
 len:r.F.length=F.length
 cur:∀s,b<=s->curB r.F r.O s=curB F O s
 pl:Pl P->Pl r.P
 no:P=[]->r.P=[]
theorem Kp.trans{b:Nat}{F:List Bk}{O:List (Nat×Bk)}{r q:DRes}(h1:Kp b F O P r)(h2:Kp b r.F r.O r.P q):Kp b F O P q:=
 ⟨h2.len.trans h1.len,fun s j=>(h2.cur s j).trans (h1.cur s j),fun h=>h2.pl (h1.pl h),fun h=>h2.no (h1.no h)⟩
theorem wG(b:Nat)(F:List Bk)(O:List (Nat×Bk))(P:List Int):Kp b F O P (flushR F O P):=by
 unfold flushR;split
 .exact ⟨rfl,fun _ _=>rfl,Pl.tail,fun h=>by rw[h];rfl⟩
 split
 .exact ⟨zI _ _,fun _ _=>rfl,Pl.tail,fun h=>by rw[h];rfl⟩
 .exact ⟨rfl,fun _ _=>rfl,Pl.tail,fun h=>by rw[h];rfl⟩
theorem ZX(b:Nat)(F:List Bk)(O:List (Nat×Bk))(P:List Int)(t:Nat)(y:Bk)(j:t<b):Kp b F O P (writeR F O P t y):=by
 unfold writeR;split
 .exact ⟨rfl,fun _ _=>rfl,Pl.tail,fun h=>by rw[h];rfl⟩
 split
 .exact ⟨rfl,fun s q=>by rw[yw,if_neg oM],Pl.tail,fun h=>by rw[h];rfl⟩
 .exact ⟨rfl,fun _ _=>rfl,Pl.tail,fun h=>by rw[h];rfl⟩
theorem uF(F:List Bk)(O:List (Nat×Bk)):flushR F O []=⟨flushF F O,[],[],0⟩:=rfl
theorem vc(F:List Bk)(O:List (Nat×Bk))(t:Nat)(y:Bk):writeR F O [] t y=⟨F,O++[(t,y)],[],0⟩:=rfl
theorem zaR(b:Nat)(F:List Bk)(L:List (Nat×Bk)):∀j P,(∀q∈L,q.1<b)->Kp b F j P (wrsR F L j P):=by
 induction L with
 |nil=>intro j P _;exact⟨rfl,fun _ _=>rfl,fun h=>h,fun h=>h⟩
 |cons x L D=>
  intro j P A;have h1:=ZX b F j P x.1 x.2 (A x oe);have E:=yo F j P x.1 x.2;simp only[wrsR];split
  .have h2:=D (writeR F j P x.1 x.2).O (writeR F j P x.1 x.2).P (fun q G=>A q (by simp[G]));exact Kp.trans h1 (by rw[E];exact h2)
  .exact h1
theorem El(F:List Bk)(L:List (Nat×Bk)):∀h,(wrsR F L h []).cd=0/\(wrsR F L h []).P=[]:=by
 induction L with
 |nil=>intro h;exact⟨rfl,rfl⟩
 |cons x L j=>intro h;rw[wrsR_yes rfl];exact j _
theorem Em(b:Nat)(F:List Bk)(O:List (Nat×Bk))(P:List Int)(L:List (Nat×Bk))(h:∀j∈L,j.1<b):Kp b F O P (saveR F O P L):=by
 have h1:=zaR b F L O P h;have q:=sF F L O P;unfold saveR;split
 .exact Kp.trans h1 (by rw[q];exact wG b F _ _)
 .exact h1
theorem Rs(F:List Bk)(O:List (Nat×Bk))(L:List (Nat×Bk)):(saveR F O [] L).cd=0:=by
 obtain⟨h1,h2⟩:=El F L O;unfold saveR;rw[if_pos h1,h2];rfl
theorem TG(b base n:Nat)(F:List Bk)(q:base+n<=b)(j:0<n):∀(W O:List (Nat×Bk)) (P:List Int),Kp b F O P (comW base n F W O P)
 |[],O,P=>⟨rfl,fun _ _=>rfl,fun h=>h,fun h=>h⟩
 |(s,y)::W,O,P=>by
  have h1:=ZX b F O P (base+(s-1)%n) y (by have:=qXu (s-1) j;omega);have A:=yo F O P (base+(s-1)%n) y;unfold comW;split
  .exact Kp.trans h1 (by rw[A];exact TG b base n F q j W _ _)
  .exact h1
theorem WH(base n:Nat)(F:List Bk):∀(W O:List (Nat×Bk)),(comW base n F W O []).cd=0/\(comW base n F W O []).P=[]
 |[],O=>⟨rfl,rfl⟩
 |(s,y)::W,O=>by
  unfold comW;rw[if_pos (show(writeR F O [] (base+(s-1)%n) y).cd=0 from rfl)];exact WH base n F W _
theorem zaS(b base n:Nat)(F:List Bk)(O:List (Nat×Bk))(P:List Int)(W:List (Nat×Bk))(j:base+n<=b)(q:0<n):Kp b F O P (comR base n F O P W).1:=by
 have h1:=wG b F O P;have h2:=h1.trans (TG b base n (flushR F O P).F j q W (flushR F O P).O (flushR F O P).P);have h:=h2.trans (wG b _ _ _);unfold comR;split
 .exact h1
 split
 .exact h2
 split
 .exact h
 .exact h
theorem En(base n:Nat)(F:List Bk)(O W:List (Nat×Bk)):(comR base n F O [] W).1.cd=0/\(comR base n F O [] W).1.O=[]/\(W=[]\/(comR base n F O [] W).2=[]):=by
 obtain⟨h1,h2⟩:=WH base n (flushF F O) W [];unfold comR;rw[uF];dsimp only;by_cases j:W=[]
 .rw [if_pos (.inr j)];exact⟨rfl,rfl,.inl j⟩
 .rw [if_neg (fun h=>h.elim (fun h=>h rfl) j),if_neg (by rw[h1];exact fun h=>h rfl),h2,uF,if_neg (by exact fun h=>h rfl)];exact⟨rfl,rfl,.inr rfl⟩
structure CaS.Same(n:CaN)(x y:CaS):Prop where
 dl:y.dF.length=x.dF.length
 bl:y.bF.length=x.bF.length
 d:∀s,n.kx<=s->curB y.dF y.dO s=curB x.dF x.dO s
 b:∀s,curB y.bF y.bO s=curB x.bF x.bO s
 ps:y.ps=x.ps
 sums:y.sums=x.sums
 pd:Pl x.dP->Pl y.dP
 pb:Pl x.bP->Pl y.bP
 nd:x.dP=[]->y.dP=[]
 nb:x.bP=[]->y.bP=[]
section
variable{n:CaN}{a b c:CaS}
theorem CaS.Same.refl(n:CaN)(a:CaS):CaS.Same n a a:=⟨rfl,rfl,fun _ _=>rfl,fun _=>rfl,rfl,rfl,fun h=>h,fun h=>h,fun h=>h,fun h=>h⟩
theorem CaS.Same.trans(h:CaS.Same n a b)(g:CaS.Same n b c):CaS.Same n a c:=
 ⟨g.dl.trans h.dl,g.bl.trans h.bl,fun s j=>(g.d s j).trans (h.d s j),fun s=>(g.b s).trans (h.b s),g.ps.trans h.ps,g.sums.trans h.sums,fun x=>g.pd (h.pd x),fun x=>g.pb (h.pb x),fun x=>g.nd (h.nd x),fun x=>g.nb (h.nb x)⟩
theorem CaS.Same.onD{r:DRes}(h:Kp n.kx a.dF a.dO a.dP r):CaS.Same n a (a.dev r):={CaS.Same.refl n a with dl:=h.len,d:=h.cur,pd:=h.pl,nd:=h.no}
theorem CaS.Same.onB{r:DRes}(h:Kp 0 a.bF a.bO a.bP r):CaS.Same n a (a.kB r):={CaS.Same.refl n a with bl:=h.len,b:=fun s=>h.cur s (qXz _),pb:=h.pl,nb:=h.no}
theorem CaS.same_fb(n:CaN)(a:CaS):CaS.Same n a a.fb:=CaS.Same.onB (wG 0 _ _ _)
theorem CaS.same_fd(n:CaN)(a:CaS):CaS.Same n a a.fd:=CaS.Same.onD (wG _ _ _ _)
theorem CaS.svR_kp(n:CaN)(a:CaS):Kp n.kx a.dF a.dO a.dP (a.svR n):=by
 refine Em _ _ _ _ _ fun A q=>?_;obtain⟨i,j,rfl⟩:=qzr.1 q;have j:=qzt.1 j;show 1+(1-a.which)*n.pa+i<n.kx;have:(1-a.which)*n.pa<=1*n.pa:=qXv _ oM;unfold CaN.kx;omega
theorem CaS.same_sv(n:CaN)(a:CaS):CaS.Same n a (a.dev (a.svR n)):=CaS.Same.onD (a.svR_kp n)
theorem CaS.same_ckpt(n:CaN)(a:CaS):CaS.Same n a (a.ckpt n).1:=by
 have h1:=a.same_fb n;have h2:=h1.trans (a.fb.same_fd n);have h:=h2.trans (a.fb.fd.same_sv n);unfold CaS.ckpt;split
 .exact h1
 split
 .exact h2
 split
 .exact h
 .exact {h with}
def CaS.NoP(a:CaS):Prop:=a.dP=[]/\a.bP=[]
theorem CaS.Same.noP(h:CaS.Same n a b)(j:a.NoP):b.NoP:=⟨h.nd j.1,h.nb j.2⟩
theorem CaS.NoP.ckpt(h:a.NoP):(a.ckpt n).2=0:=by
 have j:(flushR a.bF a.bO a.bP).cd=0:=by rw[h.2];rfl
 have q:(flushR a.fb.dF a.fb.dO a.fb.dP).cd=0:=by show(flushR a.dF a.dO a.dP).cd=0;rw[h.1];rfl
 have A:(a.fb.fd.svR n).cd=0:=by
  have D:a.fb.fd.dP=[]:=by show(flushR a.dF a.dO a.dP).P=[];rw[h.1];rfl
  unfold CaS.svR;rw[D];exact Rs _ _ _
 unfold CaS.ckpt;rw[if_neg (fun x=>x j),if_neg (fun x=>x q),if_neg (fun x=>x A)]
theorem CaS.same_roomed(n:CaN)(a:CaS):CaS.Same n a (a.j7 n).1:=by
 unfold CaS.j7;split
 .exact CaS.Same.refl n a
 .exact a.same_ckpt n
theorem CaS.NoP.j7(h:a.NoP):(a.j7 n).2=0:=by
 unfold CaS.j7;split
 .rfl
 .exact h.ckpt
theorem CaS.same_cm(n:CaN)(h:1<=n.jo)(a:CaS):CaS.Same n a (a.cm n):=
 {CaS.Same.onD (n:=n) (a:=a) (zaS n.kx (1+2*n.pa) n.jo a.dF a.dO a.dP a.W (by unfold CaN.kx;omega) h)with}
theorem CaS.same_committed(n:CaN)(h:1<=n.jo)(a:CaS):CaS.Same n a (a.j9 n).1:=by
 have h1:=a.same_fb n;have h2:=h1.trans (a.fb.same_cm n h);unfold CaS.j9;split
 .exact h1
 split
 .exact h2
 .exact {h2 with}
theorem CaS.NoP.j9(h:a.NoP):(a.j9 n).2=0/\(a.j9 n).1.dO=[]/\(a.j9 n).1.bO=[]/\(a.j9 n).1.st=freeTo a.st (pos a.st 3):=by
 have q:(flushR a.bF a.bO a.bP).cd=0:=by rw[h.2];rfl
 have A:a.fb.bO=[]:=by show(flushR a.bF a.bO a.bP).O=[];rw[h.2];rfl
 have j:=En (1+2*n.pa) n.jo a.dF a.dO a.W;have D:a.fb.com n=comR (1+2*n.pa) n.jo a.dF a.dO [] a.W:=by show comR _ _ a.dF a.dO a.dP a.W=_;rw[h.1]
 rw[<-D]at j;unfold CaS.j9;rw[if_neg (fun x=>x q),if_neg (fun x=>x j.1)];exact⟨rfl,j.2.1,A,rfl⟩
theorem CaS.same_al(n:CaN)(a:CaS):CaS.Same n a a.al:={CaS.Same.refl n a with}
theorem CaS.same_ev(n:CaN)(a:CaS):CaS.Same n a (a.ev n):={CaS.Same.refl n a with}
theorem CaS.same_turned(n:CaN)(a:CaS)(l:List Int):CaS.Same n a {a with st:=l}:={CaS.Same.refl n a with}
theorem CaS.same_takeR(n:CaN)(a:CaS)(s:Int):CaS.Same n a (a.kF n s).1:=by
 have h:=a.same_roomed n;unfold CaS.kF;split
 .exact h
 .exact h.trans (CaS.same_turned n _ _)
theorem CaS.NoP.kF(h:a.NoP)(s:Int):(a.kF n s).2.2.2=0:=by
 unfold CaS.kF;rw[if_pos h.j7]
theorem CaS.same_take3(j:1<=n.jo)(a:CaS):CaS.Same n a (a.take3 n).1:=by
 have h:=a.same_committed n j;unfold CaS.take3;split
 .exact h
 split
 .exact h.trans (CaS.same_al n _)
 .exact (h.trans (CaS.same_al n _)).trans (CaS.same_takeR n _ _)
theorem CaS.NoP.take3(j:1<=n.jo)(h:a.NoP):(a.take3 n).2.2.2=0:=by
 unfold CaS.take3;rw[if_neg (fun x=>x h.j9.1)];split
 .rfl
 .exact CaS.NoP.kF (((a.same_committed n j).trans (CaS.same_al n _)).noP h) _
theorem CaS.same_take2(h:1<=n.jo)(a:CaS):CaS.Same n a (a.kH n).1:=by
 unfold CaS.kH;split
 .exact CaS.Same.refl n a
 .exact CaS.same_take3 h a
theorem CaS.NoP.kH(h:1<=n.jo)(j:a.NoP):(a.kH n).2.2.2=0:=by
 unfold CaS.kH;split
 .rfl
 .exact j.take3 h
end
structure CaS.Val(n:CaN)(a:CaS)(v:Nat->Bk):Prop where
 dl:a.dF.length=n.size
 bl:a.bF.length=n.bl
 pl:a.ps.length=n.bl
 bk:∀k,k<n.bl->(plc a.ps k).2=false->curB a.bF a.bO k=v k
 ins:∀k,k<n.bl->plc a.ps k≠(-1,false)->curB a.dF a.dO (n.kx+(plc a.ps k).1.toNat)=v k/\a.sums (k:Int)=some (crcC (v k))
def updV(v:Nat->Bk)(k:Nat)(x:Bk):Nat->Bk:=fun m=>if m=k then x else v m
section
variable{n:CaN}{a b:CaS}{v:Nat->Bk}
theorem CaS.Val.same(h:a.Val n v)(g:CaS.Same n a b):b.Val n v where
 dl:=g.dl.trans h.dl
 bl:=g.bl.trans h.bl
 pl:=by rw[g.ps];exact h.pl
 bk:=fun k q j=>by rw[g.ps]at j;rw[g.b];exact h.bk k q j
 ins:=fun k q j=>by
  rw[g.ps]at j⊢;rw[g.d _ (qXo _ _),g.sums];exact h.ins k q j
theorem CaS.Val.left(h:a.Val n v){k:Int}(A:getC a.ps k=0)(E:curB a.bF a.bO k.toNat=v k.toNat):(a.left n k).Val n v:=by
 obtain⟨m,G,rfl,H⟩:=zQ.1 A;rw[qxt]at E;have F:∀j,plc (dropL a.ps (m:Int)) j=if j=m then(-1,false)else plc a.ps j:=fun j=>by
  unfold dropL;rw[if_pos A,qxt,xD _ _ _ _ G]
 refine⟨h.dl,h.bl,by show(dropL a.ps (m:Int)).length=n.bl;unfold dropL;rw[if_pos A,qzf];exact h.pl,fun j D q=>?_,fun j D q=>?_⟩
 .replace q:(plc (dropL a.ps (m:Int)) j).2=false:=q;rw[F]at q;split at q
  .next e=>subst e;exact E
  .exact h.bk j D q
 .replace q:plc (dropL a.ps (m:Int)) j≠(-1,false):=q;show curB a.dF a.dO (n.kx+(plc (dropL a.ps (m:Int)) j).1.toNat)=v j/\yP a.sums (m:Int) none (j:Int)=some (crcC (v j));rw[F]at q⊢;split at q
  .exact absurd rfl q
  .next e=>
   rw[if_neg e,yP,if_neg oM];exact h.ins j D q
theorem CaS.Val.kv:∀(m g:Nat) {a:CaS},a.Val n v->(CaS.kv n m g a).1.Val n v
 |0,g,a,j=>j
 |m+1,g,a,j=>by
  have D:=j.same (a.same_roomed n);have E:=D.same (CaS.same_ev n _);simp only[CaS.kv];split
  .exact j
  split
  .exact D
  split
  .exact E
  .next q=>
   have q:=qxq q;have G:((((a.j7 n).1.ev n).left n ((a.j7 n).1.evK n))).Val n v:=by
    rcases evR_cases (cleanB (a.j7 n).1.ps) n.sl (a.j7 n).1.K (a.j7 n).1.A (a.j7 n).1.H with⟨h1,-⟩|⟨-,i,T,U,O,h,-⟩
    .have:(a.j7 n).1.evC n=14:=h1;rw[this]at q;cases q
    .have Q:(a.j7 n).1.evK n=(a.j7 n).1.K[i]:=by rw[CaS.evK,O]
     have F:=qg h;rw[<-Q]at F h;obtain⟨J,L,M,S⟩:=zQ.1 F;refine CaS.Val.left E F ?_;rw[M,qxt];refine E.bk J (by rw[<-D.pl];exact L) ?_;show(plc (a.j7 n).1.ps J).2=false;unfold cleanB at h;rw[M,xC L S,qxo,Bool.not_eq_true']at h;exact h.2
   split
   .exact G
   .exact CaS.Val.kv m (g+1) G
theorem CaS.NoP.kv{o:Option Nat}:∀(m g:Nat) {a:CaS},a.NoP->a.Tie n o->(CaS.kv n m g a).2.2=0/\(CaS.kv n m g a).1.NoP
 |0,g,a,h,_=>⟨rfl,h⟩
 |m+1,g,a,h,q=>by
  have j:=(a.same_roomed n).noP h;have A:=CaS.Tie.j7 q;simp only[CaS.kv];split
  .exact ⟨rfl,h⟩
  rw[if_neg (fun x=>x h.j7)];split
  .exact ⟨rfl,j⟩
  .next D=>
   obtain⟨-,h2,E⟩:=CaS.Tie.evLeft A (qxq D);rw[if_neg (fun x=>x h2)];exact CaS.NoP.kv m (g+1) (a:=((a.j7 n).1.ev n).left n ((a.j7 n).1.evK n)) j E
theorem CaS.Val.kq(j:1<=n.jo)(A:a.Val n v):(a.kq n).1.Val n v:=by
 have h:=A.same (CaS.same_al n a);unfold CaS.kq;split
 .exact h.same (CaS.same_takeR n _ _)
 .have q:=CaS.Val.kv 1 0 h;unfold CaS.take1;split
  .split
   .exact q
   .exact q.same (CaS.same_take2 j _)
  .exact h.same (CaS.same_take2 j _)
theorem CaS.NoP.kq(j:1<=n.jo)(A:a.NoP)(D:a.Tie n none):(a.kq n).2.2.2=0/\(a.kq n).1.NoP:=by
 have h:a.al.NoP:=A;unfold CaS.kq;split
 .exact ⟨CaS.NoP.kF h _,(CaS.same_takeR n _ _).noP h⟩
 .next E=>
  have F:a.al.Tie n none:=by
   show TieL n.bl n.sl a.ps (allocList a.st) a.K none;rw[uE E];exact D
  have q:=CaS.NoP.kv 1 0 h F;unfold CaS.take1;split
  .rw [if_neg (fun x=>x q.1)];exact⟨CaS.NoP.kH j q.2,(CaS.same_take2 j _).noP q.2⟩
  .exact ⟨CaS.NoP.kH j h,(CaS.same_take2 j _).noP h⟩
theorem CaS.Val.bw(h:a.Val n v)(j:a.NoP)(k:Nat)(A:k<n.bl)(x:Bk):
  (a.kB (writeR a.bF a.bO a.bP k x)).NoP/\(writeR a.bF a.bO a.bP k x).cd=0/\curB (writeR a.bF a.bO a.bP k x).F (writeR a.bF a.bO a.bP k x).O k=x/\(∀m,m≠k->curB (writeR a.bF a.bO a.bP k x).F (writeR a.bF a.bO a.bP k x).O m=curB a.bF a.bO m)/\(writeR a.bF a.bO a.bP k x).F.length=n.bl:=by
 have q:=h.bl;rw[j.2,vc];refine⟨⟨j.1,rfl⟩,rfl,?_,fun m D=>?_,q⟩
 .show curB a.bF (a.bO++[(k,x)]) k=x;rw[yw,if_pos ⟨rfl,oM⟩]
 .show curB a.bF (a.bO++[(k,x)]) m=_;rw[yw,if_neg oM]
theorem CaS.Val.byp(h:a.Val n v)(k:Nat)(H:k<n.bl)(x:Bk){r:DRes}(M:curB r.F r.O k=x)(Q:∀m,m≠k->curB r.F r.O m=curB a.bF a.bO m)(J:r.F.length=n.bl):((a.kB r).byp n k).Val n (updV v k x):=by
 unfold CaS.byp;have L:∀j,j<n.bl->(j=k\/(plc a.ps j).2=false)->curB r.F r.O j=updV v k x j:=fun j A q=>by
  unfold updV;by_cases e:j=k
  .subst e;rw[if_pos rfl];exact M
  .rw [if_neg e,Q _ e];exact h.bk j A (q.resolve_left e)
 split
 .next D=>
  replace D:getC a.ps (k:Int)=0:=D;have G:k<a.ps.length:=by rw[h.pl];exact H
  have E:∀j,plc (dropL a.ps (k:Int)) j=if j=k then(-1,false)else plc a.ps j:=fun j=>by
   unfold dropL;rw[if_pos D,qxt,xD _ _ _ _ G]
  refine⟨h.dl,J,by show(dropL a.ps (k:Int)).length=n.bl;unfold dropL;rw[if_pos D,qzf];exact h.pl,fun j A q=>?_,fun j A q=>?_⟩
  .refine L j A ?_;replace q:(plc (dropL a.ps (k:Int)) j).2=false:=q;rw[E]at q;split at q
   .next e=>exact .inl e
   .exact .inr q
  .replace q:plc (dropL a.ps (k:Int)) j≠(-1,false):=q;show curB a.dF a.dO (n.kx+(plc (dropL a.ps (k:Int)) j).1.toNat)=updV v k x j/\yP a.sums (k:Int) none (j:Int)=some (crcC (updV v k x j));rw[E]at q⊢;split at q
   .exact absurd rfl q
   .next e=>
    rw[if_neg e,yP,if_neg oM,updV,if_neg e];exact h.ins j A q
 .next D=>
  replace D:¬getC a.ps (k:Int)=0:=D;have G:k<a.ps.length:=by rw[h.pl];exact H
  have E:plc a.ps k=(-1,false):=qxq fun S=>D (zQ.2 ⟨k,G,rfl,S⟩);refine⟨h.dl,J,h.pl,fun j A q=>L j A (.inr q),fun j A q=>?_⟩;replace q:plc a.ps j≠(-1,false):=q;have e:j≠k:=fun e=>q (e▸E);rw[updV,if_neg e];exact h.ins j A q
theorem CaS.Val.kt(A:a.Val n v)(h:a.NoP)(k:Nat)(j:k<n.bl)(x:Bk):(a.kt n k x).2=0/\(a.kt n k x).1.NoP/\(a.kt n k x).1.Val n (updV v k x):=by
 have q:=A.same (a.same_roomed n);have D:=(a.same_roomed n).noP h;obtain⟨h1,h2,E,F,G⟩:=q.bw D k j x;unfold CaS.kt;rw[if_neg (fun e=>e h.j7),if_neg (fun e=>e h2)];refine⟨rfl,?_,q.byp k j x E F G⟩;unfold CaS.byp;split
 .exact h1
 .exact h1
theorem TieL.open_ne{bl sl:Nat}{j K:List Int}(h:TieL bl sl ps j K (some s))(q:k<bl)(A:plc ps k≠(-1,false)):(plc ps k).1.toNat≠s:=fun e=>by
 have h1:=(h.opn s (h.olt s rfl)).2 rfl;have h2:=h.live k q A;rw[e,h1]at h2;cases h2
theorem CaS.Val.ku(h:a.Val n v)(D:a.NoP)(E:a.Tie n (some s))(j:Int)(x:Bk):(a.ku n s j x).2=0/\(a.ku n s j x).1.NoP/\(a.ku n s j x).1.Val n v/\curB (a.ku n s j x).1.dF (a.ku n s j x).1.dO (n.kx+s)=x/\(a.ku n s j x).1.bF=a.bF/\(a.ku n s j x).1.bO=a.bO:=by
 have J:=E.olt s rfl;have F:=h.dl;have H:n.kx+s<a.dF.length:=by rw[F];unfold CaN.kx CaN.size;omega
 unfold CaS.ku;rw[D.1,vc,if_pos rfl];refine⟨rfl,⟨rfl,D.2⟩,⟨F,h.bl,h.pl,h.bk,fun G q A=>?_⟩,?_,rfl,rfl⟩
 .have hne:=TieL.open_ne E q A;refine⟨?_,(h.ins G q A).2⟩;show curB a.dF (a.dO++[(n.kx+s,x)]) _=_;rw[yw,if_neg jA];exact(h.ins G q A).1
 .show curB a.dF (a.dO++[(n.kx+s,x)]) _=_;rw[yw,if_pos ⟨rfl,H⟩]
theorem CaS.Val.kz(h:a.Val n v)(G:a.Tie n (some s))(E:k<n.bl)(x:Bk)(d:Bool)(H:curB a.dF a.dO (n.kx+s)=x)(J:d=false->curB a.bF a.bO k=x)(L:∀m,m≠k->m<n.bl->(plc a.ps m).2=false->curB a.bF a.bO m=v m):
  (a.kz n (k:Int) s (crcC x) d).1.Val n (updV v k x):=by
 obtain⟨h1,h2,Q,S,-,-⟩:=TieL.put G E d;have M:k<a.ps.length:=by rw[h.pl];exact E
 have F:∀j,plc (xy a.ps n.sl (k:Int) (s:Int) d) j=if j=k then((s:Int),d)else plc a.ps j:=fun j=>by
  rw[h1,xD _ _ _ _ M]
 have A:(a.given n (k:Int) s (crcC x) d).Val n (updV v k x):=by
  refine⟨h.dl,h.bl,by show(xy a.ps n.sl (k:Int) (s:Int) d).length=n.bl;rw[h1,qzf];exact h.pl,fun j D q=>?_,fun j D q=>?_⟩
  .replace q:(plc (xy a.ps n.sl (k:Int) (s:Int) d) j).2=false:=q;show curB a.bF a.bO j=_;rw[F]at q;unfold updV;split at q
   .next e=>subst e;rw[if_pos rfl];exact J q
   .next e=>rw[if_neg e];exact L j e D q
  .replace q:plc (xy a.ps n.sl (k:Int) (s:Int) d) j≠(-1,false):=q;show curB a.dF a.dO (n.kx+(plc (xy a.ps n.sl (k:Int) (s:Int) d) j).1.toNat)=updV v k x j/\yP a.sums (k:Int) (some (crcC x)) (j:Int)=some (crcC (updV v k x j));rw[F]at q⊢;unfold updV yP;by_cases e:j=k
   .subst e;rw[if_pos rfl,if_pos rfl,if_pos rfl,qxt];exact⟨H,rfl⟩
   .have O:¬((j:Int)=(k:Int)):=oM;simp only[if_neg e]at q;simp only[if_neg e,if_neg O];exact h.ins j D q
 unfold CaS.kz;split
 .exact ⟨A.dl,A.bl,A.pl,A.bk,A.ins⟩
 .exact ⟨A.dl,A.bl,A.pl,A.bk,A.ins⟩
theorem CaS.NoP.kz(h:a.NoP)(k:Int)(s j:Nat)(d:Bool):(a.kz n k s j d).1.NoP:=by
 unfold CaS.kz;split
 .exact h
 .exact h
theorem CaS.Val.kE(h:a.Val n v)(H:a.NoP)(A:a.Tie n none)(h1:1<=a.next)(J:4<=n.jo)(k:Nat)(D:k<n.bl)(x:Bk):(a.kE n k x).2=0/\(a.kE n k x).1.NoP/\(a.kE n k x).1.Val n (updV v k x):=by
 have E:=h.kq oM;have j:=CaS.NoP.kq oM H A;unfold CaS.kE;rw[if_neg (fun e=>e j.1)];rcases CaS.Tie.kq A h1 J with⟨h2,U,-,s,L,q⟩|⟨h2,q⟩
 .rw [if_neg jV,L,qxt];obtain⟨F,M,G,O,f5,f6⟩:=E.ku j.2 q (k:Int) x;have Q:=(CaS.Tie.ku q (k:Int) x).resolve_right (fun e=>e.1 F);unfold CaS.backS;rw[if_neg (fun e=>e F)];exact⟨rfl,CaS.NoP.kz M _ _ _ _,G.kz Q.2 D x true O (fun e=>by cases e) (fun m _ S T=>G.bk m S T)⟩
 .rw [if_pos h2];exact E.kt j.2 k D x
theorem CaS.Val.thru(h:a.Val n v)(aa:a.NoP)(T:a.Tie n none)(h1:1<=a.next)(E:4<=n.jo)(k:Nat)(L:k<n.bl)(x:Bk):(a.thru n k x).2=0/\(a.thru n k x).1.NoP/\(a.thru n k x).1.Val n (updV v k x):=by
 have H:=h.kq oM;have J:=CaS.NoP.kq oM aa T;unfold CaS.thru;rw[if_neg (fun e=>e J.1)];rcases CaS.Tie.kq T h1 E with⟨h2,an,-,s,ab,S⟩|⟨h2,S⟩
 .rw [if_neg jV,ab,qxt];obtain⟨U,ad,V,W,X⟩:=H.bw J.2 k L x;unfold CaS.thruS;rw[if_neg (fun e=>e ad)];generalize D:(a.kq n).1.kB (writeR (a.kq n).1.bF (a.kq n).1.bO (a.kq n).1.bP k x)=b at*;have M:b.Tie n (some s):=by rw[<-D];exact S
  have ao:=S.olt s rfl;have Y:b.dF.length=n.size:=by rw[<-D];exact H.dl
  have ae:n.kx+s<b.dF.length:=by rw[Y];unfold CaN.kx CaN.size;omega
  have Z:b.bF=(writeR (a.kq n).1.bF (a.kq n).1.bO (a.kq n).1.bP k x).F:=by rw[<-D]
  have af:b.bO=(writeR (a.kq n).1.bF (a.kq n).1.bO (a.kq n).1.bP k x).O:=by rw[<-D]
  have Q:b.ps=(a.kq n).1.ps:=by rw[<-D]
  have ag:b.sums=(a.kq n).1.sums:=by rw[<-D]
  have ah:b.dF=(a.kq n).1.dF:=by rw[<-D]
  have ai:b.dO=(a.kq n).1.dO:=by rw[<-D]
  rw[<-Z,<-af]at V W;rw[<-Z]at X;unfold CaS.thruF CaS.ku;rw[U.1,vc,if_pos rfl];dsimp only;rw[if_neg (fun e=>e rfl)];have aj:∀j,j<n.bl->plc b.ps j≠(-1,false)->curB b.dF (b.dO++[(n.kx+s,x)]) (n.kx+(plc b.ps j).1.toNat)=v j:=fun j a6 a7=>by
   have hne:=TieL.open_ne M a6 a7;rw[yw,if_neg jA,ah,ai];have:=H.ins j a6 (by rw[<-Q];exact a7);rw[<-Q]at this;exact this.1
  refine⟨rfl,CaS.NoP.kz (a:={b with G:=_,dF:=_,dO:=_,dP:=[]}) ⟨rfl,U.2⟩ _ _ _ _,?_⟩;obtain⟨a8,ap,aq,ar,-,-⟩:=TieL.put M L false;have ak:k<b.ps.length:=by rw[M.hpl];exact L
  have J:∀j,plc (xy b.ps n.sl (k:Int) (s:Int) false) j=if j=k then((s:Int),false)else plc b.ps j:=fun j=>by
   rw[a8,xD _ _ _ _ ak]
  have A:(CaS.given n {b with G:=Zh b.G s (k:Int),dF:=b.dF,dO:=b.dO++[(n.kx+s,x)],dP:=[]} (k:Int) s (crcC x) false).Val n (updV v k x):=by
   refine⟨Y,X,by show(xy b.ps n.sl (k:Int) (s:Int) false).length=n.bl;rw[a8,qzf];exact M.hpl,fun j E q=>?_,fun j E q=>?_⟩
   .replace q:(plc (xy b.ps n.sl (k:Int) (s:Int) false) j).2=false:=q;show curB b.bF b.bO j=_;rw[J]at q;unfold updV;split at q
    .next e=>subst e;rw[if_pos rfl];exact V
    .next e=>
     rw[if_neg e,W _ e];exact H.bk j E (by rw[<-Q];exact q)
   .replace q:plc (xy b.ps n.sl (k:Int) (s:Int) false) j≠(-1,false):=q;show curB b.dF (b.dO++[(n.kx+s,x)]) (n.kx+(plc (xy b.ps n.sl (k:Int) (s:Int) false) j).1.toNat)=updV v k x j/\yP b.sums (k:Int) (some (crcC x)) (j:Int)=some (crcC (updV v k x j));rw[J]at q⊢;unfold updV yP;by_cases e:j=k
    .subst e;rw[if_pos rfl,if_pos rfl,if_pos rfl,qxt];exact⟨by rw[yw,if_pos ⟨rfl,ae⟩],rfl⟩
    .have am:¬((j:Int)=(k:Int)):=oM;simp only[if_neg e]at q;simp only[if_neg e,if_neg am];refine⟨aj j E q,?_⟩;rw[ag];exact(H.ins j E (by rw[<-Q];exact q)).2
  unfold CaS.kz;split
  .exact ⟨A.dl,A.bl,A.pl,A.bk,A.ins⟩
  .exact ⟨A.dl,A.bl,A.pl,A.bk,A.ins⟩
 .rw [if_pos h2];exact H.kt J.2 k L x
end
section
variable{n:CaN}{a b:CaS}{v:Nat->Bk}{N:Nat}
theorem CaS.Val.kG(h:a.Val n v)(q:a.NoP)(A:a.Tie n none)(h1:1<=a.next)(D:4<=n.jo)(k:Int)(x:Bk)(j:Int)(E:0<=k/\k<(n.bl:Int))(F:0<=j/\j<3):(a.kG n k x j).2=0/\(a.kG n k x j).1.NoP/\(a.kG n k x j).1.Val n (updV v k.toNat x):=by
 unfold CaS.kG;rw[if_neg oM,if_neg oM];split
 .exact h.kE q A h1 D _ oM x
 split
 .exact h.thru q A h1 D _ oM x
 .exact h.kt q _ oM x
theorem CaS.wrote_bad(k:Int)(x:Bk)(j:Int)(A:¬(0<=k/\k<(n.bl:Int))\/¬(0<=j/\j<3)):(a.kG n k x j).2≠0/\(a.kG n k x j).1=a:=by
 unfold CaS.kG;by_cases q:k<0\/(n.bl:Int)<=k
 .rw [if_pos q];exact⟨show (10:Int)≠0 by decide,rfl⟩
 .rw [if_neg q,if_pos oM];exact⟨show (1:Int)≠0 by decide,rfl⟩
theorem CaS.Val.gone(h:a.Val n v)(j:a.NoP)(k:Int)(q:0<=k/\k<(n.bl:Int)):(a.gone n k).2=0/\(a.gone n k).1.NoP/\(a.gone n k).1.Val n (updV v k.toNat zB):=by
 unfold CaS.gone;rw[if_neg oM];exact h.kt j _ oM zB
theorem CaS.gone_bad(k:Int)(j:¬(0<=k/\k<(n.bl:Int))):(a.gone n k).2≠0/\(a.gone n k).1=a:=by
 unfold CaS.gone;rw[if_pos oM];exact⟨show (10:Int)≠0 by decide,rfl⟩
def CaS.kA(n:CaN)(a:CaS)(k:Int):CaS×Int:=
 if getC a.ps k≠0 then(a,getC a.ps k)
 else if(a.j7 n).2≠0 then((a.j7 n).1,(a.j7 n).2)
 else({(a.j7 n).1.noted n 0 k (getV a.ps k).1 false ((a.sums k).getD 0)with ps:=cleanL a.ps k},0)
theorem CaS.Fit.noted(j:a.Fit N)(h1:1<=a.next)(op q slot:Int)(d:Bool)(A:Int)(ps:List (Int×Bool)):CaS.Fit {a.noted n op q slot d A with ps:=ps} (N+1):=
 {j.mono (qXq N)with
  nx:=by have:=j.nx;show a.next+1<=N+1;omega
  w1:=fun D h=>by
   rcases qzm.1 h with h|h
   .exact j.w1 D h
   .simp at h;subst h;exact h1}
theorem CaS.Fit.kA(h:a.Fit N)(h1:1<=a.next)(k:Int):(a.kA n k).1.Fit (N+n.pa+1):=by
 have j:=h.j7 (n:=n);have q:=(a.j8 n).1;unfold CaS.kA;split
 .exact h.mono oM
 split
 .exact j.mono oM
 .exact j.noted oM _ _ _ _ _ _
theorem CaS.cleaned_next(n:CaN)(a:CaS)(k:Int):a.next<=(a.kA n k).1.next:=by
 have h:=(a.j8 n).1;unfold CaS.kA;split
 .exact qXp _
 split
 .show a.next<=(a.j7 n).1.next;omega
 .show a.next<=(a.j7 n).1.next+1;omega
theorem CaS.Tie.kA{o:Option Nat}(h:a.Tie n o)(k:Int):(a.kA n k).1.Tie n o:=by
 have j:=CaS.Tie.j7 h;have q:=(a.j8 n).2;unfold CaS.kA;split
 .exact h
 split
 .exact j
 .have:=TieL.clean j k;rw[q]at this;exact this
theorem Uh{m:Nat}(h:m<ps.length)(q:plc ps m≠(-1,false))(j:Nat):plc (cleanL ps (m:Int)) j=if j=m then((plc ps m).1,false)else plc ps j:=by
 have A:getC ps (m:Int)=0:=zQ.2 ⟨m,h,rfl,q⟩;unfold cleanL;rw[if_pos A,xC h q,qxt,xD _ _ _ _ h]
theorem Ui(ps:List (Int×Bool))(k:Int):(cleanL ps k).length=ps.length:=by
 unfold cleanL;split
 .rw [qzf]
 .rfl
theorem CaS.Val.kA(q:a.Val n v)(_ht:a.Tie n none)(J:k<n.bl)(E:plc a.ps k≠(-1,false))(L:curB a.bF a.bO k=v k):
  (a.kA n (k:Int)).1.Val n v/\((a.kA n (k:Int)).2=0->∀h,plc (a.kA n (k:Int)).1.ps h=if h=k then((plc a.ps k).1,false)else plc a.ps h)/\((a.kA n (k:Int)).2≠0->(a.kA n (k:Int)).1.ps=a.ps):=by
 have H:k<a.ps.length:=by rw[q.pl];exact J
 have M:getC a.ps (k:Int)=0:=zQ.2 ⟨k,H,rfl,E⟩;have A:=a.same_roomed n;have F:=q.same A;unfold CaS.kA;rw[if_neg (fun e=>e M)];split
 .next O=>exact⟨F,fun e=>absurd e O,fun _=>A.ps⟩
 .have G:=Uh H E;refine⟨⟨F.dl,F.bl,by show(cleanL a.ps (k:Int)).length=n.bl;rw[Ui];exact q.pl,fun h D j=>?_,fun h D j=>?_⟩,fun _=>G,fun e=>absurd rfl e⟩
  .replace j:(plc (cleanL a.ps (k:Int)) h).2=false:=j;show curB (a.j7 n).1.bF (a.j7 n).1.bO h=v h;rw[A.b];rw[G]at j;split at j
   .next e=>subst e;exact L
   .exact q.bk h D j
  .replace j:plc (cleanL a.ps (k:Int)) h≠(-1,false):=j;show curB (a.j7 n).1.dF (a.j7 n).1.dO (n.kx+(plc (cleanL a.ps (k:Int)) h).1.toNat)=v h/\(a.j7 n).1.sums (h:Int)=some (crcC (v h));rw[A.d _ (qXo _ _),A.sums];rw[G]at j⊢;split
   .next e=>subst e;exact q.ins h D E
   .next e=>rw[if_neg e]at j;exact q.ins h D j
theorem CaS.NoP.kA(h:a.NoP)(j:k<a.ps.length)(q:plc a.ps k≠(-1,false)):(a.kA n (k:Int)).2=0:=by
 have A:getC a.ps (k:Int)=0:=zQ.2 ⟨k,j,rfl,q⟩;unfold CaS.kA;rw[if_neg (fun e=>e A),if_neg (fun e=>e h.j7)]
theorem CaS.cleaned_dev(n:CaN)(a:CaS)(k:Int):((a.kA n k).1.bF=a.bF/\(a.kA n k).1.bO=a.bO/\(a.kA n k).1.dP=a.dP/\(a.kA n k).1.bP=a.bP)\/((a.kA n k).1.bF=(a.j7 n).1.bF/\(a.kA n k).1.bO=(a.j7 n).1.bO/\(a.kA n k).1.dP=(a.j7 n).1.dP/\(a.kA n k).1.bP=(a.j7 n).1.bP):=by
 unfold CaS.kA;split
 .exact .inl ⟨rfl,rfl,rfl,rfl⟩
 split
 .exact .inr ⟨rfl,rfl,rfl,rfl⟩
 .exact .inr ⟨rfl,rfl,rfl,rfl⟩
theorem YS(F:List Bk)(P:List Int):(flushR F [] P).F=F/\(flushR F [] P).O=[]:=by
 unfold flushR
 repeat' split
 all_goals exact⟨rfl,rfl⟩
theorem CaS.roomed_still(n:CaN)(h:a.bO=[]):(a.j7 n).1.bF=a.bF/\(a.j7 n).1.bO=[]:=by
 have j:=YS a.bF a.bP;rw[<-h]at j;unfold CaS.j7;split
 .exact ⟨rfl,h⟩
 .unfold CaS.ckpt
  repeat' split
  all_goals exact⟨j.1,j.2.trans h⟩
theorem CaS.cleaned_still(k:Int)(h:a.bO=[]):(a.kA n k).1.bF=a.bF/\(a.kA n k).1.bO=[]:=by
 have j:=CaS.roomed_still n h;rcases CaS.cleaned_dev n a k with⟨h1,h2,-⟩|⟨h1,h2,-⟩
 .rw [h1,h2];exact⟨rfl,h⟩
 .rw [h1,h2];exact j
theorem CaS.cleaned_pl(k:Int)(h1:Pl a.dP)(h2:Pl a.bP):Pl (a.kA n k).1.dP/\Pl (a.kA n k).1.bP:=by
 have q:=a.same_roomed n;rcases CaS.cleaned_dev n a k with⟨-,-,h,j⟩|⟨-,-,h,j⟩
 .rw [h,j];exact⟨h1,h2⟩
 .rw [h,j];exact⟨q.pd h1,q.pb h2⟩
theorem CaS.cleaned_no(k:Int)(h:a.NoP):(a.kA n k).1.NoP:=by
 have A:=(a.same_roomed n).noP h;rcases CaS.cleaned_dev n a k with⟨-,-,j,q⟩|⟨-,-,j,q⟩
 .exact ⟨j.trans h.1,q.trans h.2⟩
 .exact ⟨j.trans A.1,q.trans A.2⟩
theorem CaS.Val.kw(h:a.Val n v)(h1:Pl a.dP)(h2:Pl a.bP)(D:k<n.bl):
  CaS.Same n a (a.kw n (k:Int)).1/\(a.kw n (k:Int)).1.bO=a.bO/\(a.kw n (k:Int)).1.bF=a.bF/\(a.kw n (k:Int)).1.dF=a.dF/\(a.kw n (k:Int)).1.dO=a.dO/\((a.kw n (k:Int)).2.2=0->(a.kw n (k:Int)).2.1=v k)/\(a.NoP->(a.kw n (k:Int)).2.2=0/\(a.kw n (k:Int)).1=a):=by
 have E:k<a.ps.length:=by rw[h.pl];exact D
 have F:CaS.Same n a {a with dP:=a.dP.tail}:={CaS.Same.refl n a with pd:=Pl.tail,nd:=fun e=>by show a.dP.tail=[];rw[e];rfl}
 have J:CaS.Same n a {a with bP:=a.bP.tail}:={CaS.Same.refl n a with pb:=Pl.tail,nb:=fun e=>by show a.bP.tail=[];rw[e];rfl}
 have L:a.dP=[]->{a with dP:=a.dP.tail}=a:=fun e=>by cases a;simp only at e;subst e;rfl
 have M:a.bP=[]->{a with bP:=a.bP.tail}=a:=fun e=>by cases a;simp only at e;subst e;rfl
 unfold CaS.kw;by_cases q:plc a.ps k=(-1,false)
 .have A:getC a.ps (k:Int)=14:=by
   unfold getC;rw[if_neg oM,qxt,if_pos q]
  rw[if_pos A];refine⟨J,rfl,rfl,rfl,rfl,fun e=>?_,fun j=>⟨?_,M j.2⟩⟩
  .show (if fate a.bP=1 then zB else curB a.bF a.bO (k:Int).toNat)=v k;rw[if_neg (fun O=>by
    replace e:(if fate a.bP=1 then(19:Int)else 0)=0:=e;rw[if_pos O]at e;cases e),qxt]
   exact h.bk k D (by rw[q])
  .show (if fate a.bP=1 then(19:Int)else 0)=0;rw[j.2];rfl
 .have A:getC a.ps (k:Int)=0:=zQ.2 ⟨k,E,rfl,q⟩;obtain⟨G,Q⟩:=h.ins k D q;rw[if_neg (by rw[A];decide),if_neg (fun e=>e A),xC E q];unfold CaS.readS;split
  .next H=>exact⟨F,rfl,rfl,rfl,rfl,fun e=>absurd (show(19:Int)=0 from e) de,fun j=>by rw[j.1]at H;exact absurd H de⟩
  .rw [if_pos (by rw[G,Q];rfl)];exact⟨F,rfl,rfl,rfl,rfl,fun _=>G,fun j=>⟨rfl,L j.1⟩⟩
def dirtL(ps:List (Int×Bool)):List Nat:=(List.range ps.length).filter fun k=>(plc ps k).2
theorem wH:k∈dirtL ps↔k<ps.length/\(plc ps k).2=true:=by simp[dirtL]
theorem qJ(ps:List (Int×Bool)):(dirtL ps).Nodup:=List.nodup_range.filter _
theorem wI(ps:List (Int×Bool)):(dirtL ps).length<=ps.length:=by
 have:=List.length_filter_le (fun k=>(plc ps k).2) (List.range ps.length)
 rwa[List.length_range]at this
theorem Eo(h:k∈dirtL ps):plc ps k≠(-1,false):=fun e=>by
 have:=(wH.1 h).2;rw[e]at this;cases this
theorem WI{j:List (Int×Bool)}(q:j.length=ps.length)(A:∀h,plc j h=if h=k then((plc ps k).1,false)else plc ps h):dirtL j=(dirtL ps).filter (·≠k):=by
 unfold dirtL;rw[List.filter_filter,q];refine List.filter_congr fun h _=>?_;rw[A];by_cases e:h=k
 .subst e;simp
 .simp [e]
def CaS.backs(n:CaN):List Nat->CaS->CaS×Int
 |[],a=>(a,0)
 |k::l,a=>
  if(a.kw n (k:Int)).2.2≠0 then((a.kw n (k:Int)).1,(a.kw n (k:Int)).2.2)
  else if(writeR (a.kw n (k:Int)).1.bF (a.kw n (k:Int)).1.bO (a.kw n (k:Int)).1.bP k (a.kw n (k:Int)).2.1).cd≠0 then((a.kw n (k:Int)).1.kB (writeR (a.kw n (k:Int)).1.bF (a.kw n (k:Int)).1.bO (a.kw n (k:Int)).1.bP k (a.kw n (k:Int)).2.1),(writeR (a.kw n (k:Int)).1.bF (a.kw n (k:Int)).1.bO (a.kw n (k:Int)).1.bP k (a.kw n (k:Int)).2.1).cd)
  else CaS.backs n l ((a.kw n (k:Int)).1.kB (writeR (a.kw n (k:Int)).1.bF (a.kw n (k:Int)).1.bO (a.kw n (k:Int)).1.bP k (a.kw n (k:Int)).2.1))
def CaS.cleans(n:CaN):List Nat->Nat->CaS->CaS×Nat×Int
 |[],i,a=>(a,i,0)
 |k::l,i,a=>if(a.kA n (k:Int)).2≠0 then((a.kA n (k:Int)).1,i,(a.kA n (k:Int)).2)else CaS.cleans n l (i+1) (a.kA n (k:Int)).1
def CaS.stepL(n:CaN)(l:List Nat)(a:CaS):CaS×Nat×Int:=
 if(CaS.backs n l a).2≠0 then((CaS.backs n l a).1,0,(CaS.backs n l a).2)
 else if l=[]then((CaS.backs n l a).1,0,0)
 else if(flushR (CaS.backs n l a).1.bF (CaS.backs n l a).1.bO (CaS.backs n l a).1.bP).cd≠0 then((CaS.backs n l a).1.fb,0,(flushR (CaS.backs n l a).1.bF (CaS.backs n l a).1.bO (CaS.backs n l a).1.bP).cd)
 else CaS.cleans n l 0 (CaS.backs n l a).1.fb
def CaS.step(n:CaN)(a:CaS)(m:Nat):CaS×Nat×Int:=CaS.stepL n ((dirtL a.ps).take m) a
theorem ue{F:List Bk}{O:List (Nat×Bk)}(h:Pl P)(s:Nat)(y:Bk):((writeR F O P s y).cd=0->(writeR F O P s y).O=O++[(s,y)])/\((writeR F O P s y).cd≠0->(writeR F O P s y).O=O)/\Pl (writeR F O P s y).P:=by
 unfold writeR;rcases h.fate with e|e
 .rw [if_neg (by rw[e];decide),if_pos e];exact⟨fun _=>rfl,fun x=>absurd rfl x,h.tail⟩
 .rw [if_pos e];exact⟨fun x=>absurd (show(20:Int)=0 from x) de,fun _=>rfl,h.tail⟩
structure CaS.Stays(n:CaN)(a b:CaS)(v:Nat->Bk):Prop where
 val:b.Val n v
 tie:b.Tie n none
 nx:1<=b.next
 pd:Pl b.dP
 pb:Pl b.bP
 no:a.NoP->b.NoP
theorem CaS.Val.backs(a7:a.Tie n none)(hx:1<=a.next):∀(l:List Nat) {a0:CaS},a0.ps=a.ps->CaS.Stays n a a0 v->(∀k∈l,k<n.bl/\(plc a.ps k).2=true)->∀done:List Nat,(∀k∈done,k<n.bl/\curB a0.bF a0.bO k=v k)->
  CaS.Stays n a (CaS.backs n l a0).1 v/\(CaS.backs n l a0).1.ps=a.ps/\((CaS.backs n l a0).2=0->∀k,k∈done\/k∈l->curB (CaS.backs n l a0).1.bF (CaS.backs n l a0).1.bO k=v k)/\(a.NoP->(CaS.backs n l a0).2=0)
 |[],a0,V,h,_,done,M=>⟨h,V,fun _ k E=>(by rcases E with E|E;exact(M k E).2;cases E),fun _=>rfl⟩
 |k::l,a0,V,h,W,done,M=>by
  obtain⟨E,a8⟩:=W k oe;obtain⟨J,aa,ab,af,ag,X,Y⟩:=h.val.kw h.pd h.pb E;have G:=h.val.same J;have Q:(a0.kw n (k:Int)).1.Tie n none/\1<=(a0.kw n (k:Int)).1.next:=by
   unfold CaS.kw CaS.readS
   repeat' split
   all_goals exact⟨h.tie,h.nx⟩
  have A:CaS.Stays n a (a0.kw n (k:Int)).1 v:=⟨G,Q.1,Q.2,J.pd h.pd,J.pb h.pb,fun H=>J.noP (h.no H)⟩
  have S:(a0.kw n (k:Int)).1.ps=a.ps:=J.ps.trans V;rw[<-aa,<-ab]at M;simp only[CaS.backs];generalize a0.kw n (k:Int)=r at*;obtain⟨b,y,ah⟩:=r;simp only at X Y A S G Q J M⊢;split
  .next T=>exact⟨A,S,fun e=>absurd e T,fun H=>absurd (Y (h.no H)).1 T⟩
  .next T=>
   have hy:=X (qxq T);subst hy;have ad:(b.kB (writeR b.bF b.bO b.bP k (v k))).Val n v:=by
    have Z:=yo b.bF b.bO b.bP k (v k);refine⟨G.dl,by show(writeR b.bF b.bO b.bP k (v k)).F.length=n.bl;rw[Z];exact G.bl,G.pl,fun j q L=>?_,G.ins⟩;have ai:j≠k:=fun e=>by
     subst e;replace L:(plc b.ps j).2=false:=L;rw[S,a8]at L;cases L
    show curB (writeR b.bF b.bO b.bP k (v k)).F (writeR b.bF b.bO b.bP k (v k)).O j=v j;rw[Z];by_cases D:(writeR b.bF b.bO b.bP k (v k)).cd=0
    .rw [(ue A.pb k (v k)).1 D,yw,if_neg oM];exact G.bk j q L
    .rw [(ue A.pb k (v k)).2.1 D];exact G.bk j q L
   have a6:CaS.Stays n a (b.kB (writeR b.bF b.bO b.bP k (v k))) v:=⟨ad,Q.1,Q.2,A.pd,(ue A.pb k (v k)).2.2,fun H=>⟨(A.no H).1,by show(writeR b.bF b.bO b.bP k (v k)).P=[];rw[(A.no H).2];rfl⟩⟩
   split
   .next D=>exact⟨a6,S,fun e=>absurd e D,fun H=>by rw[(A.no H).2]at D;exact absurd rfl D⟩
   .next D=>
    have D:=qxq D;have ae:∀j,curB (writeR b.bF b.bO b.bP k (v k)).F (writeR b.bF b.bO b.bP k (v k)).O j=if k=j/\k<b.bF.length then v k else curB b.bF b.bO j:=fun j=>by
     rw[yo,(ue A.pb k (v k)).1 D,yw]
    have U:=CaS.Val.backs a7 hx l (a0:=b.kB (writeR b.bF b.bO b.bP k (v k))) S a6 (fun j q=>W j (by simp[q])) (k::done) (fun j q=>by
     show j<n.bl/\curB (writeR b.bF b.bO b.bP k (v k)).F (writeR b.bF b.bO b.bP k (v k)).O j=v j;rw[ae];split
     .next e=>rw[<-e.1];exact⟨E,rfl⟩
     .next e=>
      rcases qzn.1 q with rfl|q
      .exact absurd ⟨rfl,by rw[G.bl];exact E⟩ e
      .exact M j q)
    refine⟨U.1,U.2.1,fun e j q=>U.2.2.1 e j ?_,U.2.2.2⟩;rcases q with q|q
    .exact .inl (by simp[q])
    .rcases qzn.1 q with rfl|q
     .exact .inl oe
     .exact .inr q
theorem CaS.Val.cleans:∀(l:List Nat) (i:Nat) {a0:CaS},CaS.Stays n a a0 v->a0.bO=[]->l.Nodup->(∀k∈l,k∈dirtL a0.ps/\a0.bF.getD k zB=v k)->
  CaS.Stays n a (CaS.cleans n l i a0).1 v/\(CaS.cleans n l i a0).1.bO=[]/\(CaS.cleans n l i a0).1.bF=a0.bF/\i<=(CaS.cleans n l i a0).2.1/\(CaS.cleans n l i a0).2.1<=i+l.length/\((CaS.cleans n l i a0).2.2=0↔(CaS.cleans n l i a0).2.1=i+l.length)/\(a.NoP->(CaS.cleans n l i a0).2.2=0)/\
   dirtL (CaS.cleans n l i a0).1.ps=(dirtL a0.ps).filter fun k=>decide (k∉l.take ((CaS.cleans n l i a0).2.1-i))
 |[],i,a0,h,D,_,_=>by
  refine⟨h,D,rfl,qXp _,qXp _,⟨fun _=>rfl,fun _=>rfl⟩,fun _=>rfl,?_⟩;show dirtL a0.ps=_;rw[List.filter_eq_self.2];intro k _;simp
 |k::l,i,a0,h,D,F,G=>by
  obtain⟨H,U⟩:=G k oe;obtain⟨J,aj⟩:=wH.1 H;have V:k<n.bl:=by rw[<-h.val.pl];exact J
  have L:=Eo H;have W:curB a0.bF a0.bO k=v k:=by rw[D];exact U
  obtain⟨c1,c2,X⟩:=h.val.kA h.tie V L W;obtain⟨E,M⟩:=CaS.cleaned_still (n:=n) (k:Int) D;obtain⟨Y,Z⟩:=CaS.cleaned_pl (n:=n) (k:Int) h.pd h.pb;have O:CaS.Stays n a (a0.kA n (k:Int)).1 v:=⟨c1,CaS.Tie.kA h.tie _,qXr h.nx (CaS.cleaned_next n a0 _),Y,Z,fun A=>CaS.cleaned_no _ (h.no A)⟩
  have a6:a.NoP->(a0.kA n (k:Int)).2=0:=fun A=>(h.no A).kA J L;simp only[CaS.cleans];split
  .next j=>
   refine⟨O,M,E,qXp _,oe,⟨fun e=>absurd e j,fun e=>by simp at e⟩,fun A=>absurd (a6 A) j,?_⟩;rw[X j,Nat.sub_self,List.filter_eq_self.2];intro q _;simp
  .next j=>
   have j:=qxq j;have Q:=WI (by rw[c1.pl,h.val.pl]) (c2 j);have a7:=CaS.Val.cleans l (i+1) O M (qzx.1 F).2 (fun q S=>by
    obtain⟨a8,aa⟩:=G q (by simp[S]);refine⟨?_,by rw[E];exact aa⟩;rw[Q,List.mem_filter];exact⟨a8,by simpa using fun e:q=k=>(qzx.1 F).1 (e▸S)⟩)
   obtain⟨ab,ad,ae,ak,am,af,ag,ah⟩:=a7;generalize CaS.cleans n l (i+1) (a0.kA n (k:Int)).1=R at*;refine⟨ab,ad,ae.trans E,oM,by rw[qza];omega,by rw[qza,af];omega,ag,?_⟩;rw[ah,Q,List.filter_filter];refine List.filter_congr fun q _=>?_;have e:R.2.1-i=(R.2.1-(i+1))+1:=oM;rw[e,List.take_succ_cons];by_cases T:q=k<;>by_cases ai:q∈l.take (R.2.1-(i+1))<;>simp[T,ai]<;>(try subst T)<;>simp_all
theorem WJ{l:List Nat}(j:l.Nodup)(m:Nat):(l.filter fun k=>decide (k∉l.take m))=l.drop m:=by
 conv=>lhs;rw[<-qXj m l]
 rw[List.filter_append,qXj];have q:(l.take m++l.drop m).Nodup:=by rw[qXj];exact j
 rw[List.filter_eq_nil_iff.2 (by intro k h;simpa using h),List.filter_eq_self.2,qzv];intro k h;rw[decide_eq_true_iff];exact fun A=>(qzw.1 q).2.2 k A k h rfl
structure CaS.StepOut(n:CaN)(a:CaS)(v:Nat->Bk)(m:Nat)(r:CaS×Nat×Int):Prop where
 st:CaS.Stays n a r.1 v
 le:r.2.1<=min m (dirtL a.ps).length
 ok:r.2.2=0↔r.2.1=min m (dirtL a.ps).length
 no:a.NoP->r.2.2=0
 dirt:dirtL r.1.ps=(dirtL a.ps).drop r.2.1
 firm:∀k∈(dirtL a.ps).take r.2.1,r.1.bF.getD k zB=v k
theorem CaS.Val.step(h:a.Val n v)(Q:a.Tie n none)(hx:1<=a.next)(h1:Pl a.dP)(h2:Pl a.bP)(m:Nat)(_hm:1<=m):CaS.StepOut n a v m (a.step n m):=by
 have Z:CaS.Stays n a a v:=⟨h,Q,hx,h1,h2,fun e=>e⟩
 have a6:∀k∈(dirtL a.ps).take m,k<n.bl/\(plc a.ps k).2=true:=fun k j=>by
  have:=wH.1 (List.mem_of_mem_take j);rw[h.pl]at this;exact this
 obtain⟨q,b2,a7,a8⟩:=CaS.Val.backs Q hx _ rfl Z a6 [] (fun k j=>by cases j);have H:((dirtL a.ps).take m).length=min m (dirtL a.ps).length:=qzg;have aa:((dirtL a.ps).take m).Nodup:=(qJ a.ps).sublist (List.take_sublist _ _);have S:∀i,i<=((dirtL a.ps).take m).length->((dirtL a.ps).take m).take i=(dirtL a.ps).take i:=fun i ak=>by
  rw[List.take_take,Nat.min_eq_left];omega
 have ab:(dirtL a.ps).take m=[]->(CaS.backs n ((dirtL a.ps).take m) a).2=0:=fun e=>by rw[e];rfl
 unfold CaS.step CaS.stepL;generalize ad:(dirtL a.ps).take m=E at*;generalize CaS.backs n E a=B at*;have M:=CaS.same_fb n B.1;have T:CaS.Stays n a B.1.fb v:=⟨q.val.same M,q.tie,q.nx,q.pd,M.pb q.pb,fun G=>M.noP (q.no G)⟩
 have U:E≠[]->¬0=min m (dirtL a.ps).length:=fun e ae=>e (qyc (H.trans ae.symm));split
 .next D=>exact⟨q,qXz _,⟨fun e=>absurd e D,fun e=>absurd e (U (fun e=>D (ab e)))⟩,fun G=>absurd (a8 G) D,jD,fun k j=>by simp at j⟩
 split
 .next D J=>exact⟨q,qXz _,⟨fun _=>(by show 0=_;rw[<-H,J];rfl),fun _=>rfl⟩,fun _=>rfl,jD,fun k j=>by simp at j⟩
 split
 .next D J A=>
  exact⟨T,qXz _,⟨fun e=>absurd e A,fun e=>absurd e (U J)⟩,fun G=>(by rw[(q.no G).2]at A;exact absurd rfl A),jD,fun k j=>by simp at j⟩
 .next D J A=>
  have A:=qxq A;have af:=a7 (qxq D);obtain⟨ag,ah⟩:B.1.fb.bO=[]/\B.1.fb.bF=flushF B.1.bF B.1.bO:=by
   show(flushR B.1.bF B.1.bO B.1.bP).O=[]/\(flushR B.1.bF B.1.bO B.1.bP).F=_;unfold flushR at A⊢;rcases q.pb.fate with e|e
   .rw [if_neg (by rw[e];decide),if_pos e];exact⟨rfl,rfl⟩
   .rw [if_pos e]at A;cases A
  have V:∀k∈E,B.1.fb.bF.getD k zB=v k:=fun k j=>by
   rw[ah];exact af k (.inr j)
  have W:B.1.fb.ps=a.ps:=b2;obtain⟨c1,c2,ai,am,L,X,aj,Y⟩:=CaS.Val.cleans (a:=a) E 0 T ag aa (fun k j=>⟨(by rw[W];exact List.mem_of_mem_take (by rw[ad];exact j)),V k j⟩);generalize CaS.cleans n E 0 B.1.fb=R at*;rw[qXy]at L X;rw[Nat.sub_zero,W,S _ L,WJ (qJ _)]at Y;refine⟨c1,by rw[<-H];exact L,by rw[<-H];exact X,aj,Y,fun k j=>?_⟩;rw[ai];refine V k ?_;rw[<-S _ L]at j;exact List.mem_of_mem_take j
end
end Go.Proofs.YtpejdgiccaijfaaGreatDoor
