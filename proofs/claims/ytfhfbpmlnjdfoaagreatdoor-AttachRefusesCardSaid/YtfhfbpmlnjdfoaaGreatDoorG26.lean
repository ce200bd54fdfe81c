/- A cache: Read. -/
import Derived.Test.YtfhfbpmlnjdfoaaGreatDoorG25
set_option maxRecDepth 100000
set_option maxHeartbeats 2000000
namespace Go.Proofs.YtfhfbpmlnjdfoaaGreatDoor
open Go Go.RowKit Tryz
def CaS.readS(n:CaN)(a:CaS)(k:Int)(s:Nat):CaS×Bk×Int:=
 if fate a.dP=1 then({a with dP:=a.dP.tail},zB,19)
 else if crcC (curB a.dF a.dO (n.ku+s))=(a.sums k).getD 0 then({a with dP:=a.dP.tail},curB a.dF a.dO (n.ku+s),0)else({a with dP:=a.dP.tail},zB,13)
def CaS.kt(n:CaN)(a:CaS)(k:Int):CaS×Bk×Int:=
 if getC a.ps k=14 then({a with bP:=a.bP.tail},(if fate a.bP=1 then zB else curB a.bF a.bO k.toNat),(if fate a.bP=1 then 19 else 0))
 else if getC a.ps k≠0 then(a,zB,getC a.ps k)else a.readS n k (getV a.ps k).1.toNat
section
variable{own own2:Nat->Nat}{w w' W2:World}{c m:Nat}{n:CaN}{p:CaP}{a:CaS}{N:Nat}
theorem xR(h:CaAt own2 W2 c n p a)(d:Did own own2 w W2)(hm0:own2 m=0)(hm:w.heap.size<=m)(h1:m≠0)(h2:m≠1)(cs:List Value):CaAt own2 (W2.setCells m 0 cs) c n p a/\Did own own2 w (W2.setCells m 0 cs):=
 ⟨h.kv (zq W2 m 0 cs) (fun j e=>by subst e;exact⟨hm0,h1,h2⟩),⟨d.upd.new (zq W2 m 0 cs) (fun i hi e=>oM),d.old,d.new,fun j hj=>d.far j (by have:=(zq W2 m 0 cs).size;omega)⟩⟩
theorem xh{W:World}{g:Nat}{cs:List Value}{t:TypeId}(hg:W.heap[g]?=some (.cells cs.toArray t (0,0)))(hc:cs.length=64):W.there g 0 64:=fun j hj=>by
 rw[za hg,zg hg];exact⟨by rw[qYe,qxe (by simp[hc];omega)];rfl,rfl⟩
theorem Um(h:CaAt own w c n p a)(k:Int):
  Calls prog 45 #[ptr c,.int .i64 k] w (ZR own w c n p (a.kt n k).1 (a.kt n k).2.1 (a.kt n k).2.2):=by
 obtain⟨R,hR⟩:=qqe (a.kt n k);rw[<-hR];unfold CaS.kt at hR;obtain⟨w1,hw1⟩:=qqe (w.alloc (.cells (bkC zB).toArray 54));have hu1:=qqu hw1;have hg1:=qqg hw1;obtain⟨m,hm⟩:=qqe (w.heap.size);have hm0:own m=0:=h.far _ oM;rw[<-hm]at hg1;have h1:=h.new hu1;have d1:=h.ki hu1;have hcl:=h.clt;have HL:=Y3 h.nib.lt h.tur.lt hm;have HG:=qqh (ri h1 k);obtain⟨-,-,-,-,d4,-,-,-,-⟩:=h.cells;have H:=Y4 d1 hg1 hm0 hR;have HW1:=qqh hw1;clear h1 h hu1 hg1 hm0 d1 hm hw1 hR;obtain⟨Z,hZ⟩:=qqe (zB);have hZl:Z.length=64:=by rw[hZ];rfl
 have HZ:=Y2 hZ (wj Z hZ);clear hZ;go_enter func45,ntmps45
 go_wp2_with fail
 rw[As,<-HW1.o,<-HL.o.2.2];refine HG.o.mono ?_;rintro e w2 ⟨rfl,own2,h2,hd2⟩;have g2:=(hd2.upd.block m (zf H.o.2.1) (fun h=>h.1 H.o.2.2.1)).trans H.o.2.1;have hmo:own2 m=0:=(hd2.old m (zf H.o.2.1)).trans H.o.2.2.1;have d2:=H.o.1.trans hd2;have hR:=H.o.2.2.2;have hm1:m≠0:=fun e=>by have:=HL.o.1;have:=HL.o.2.2;omega
 have hm2:m≠1:=fun e=>by have:=HL.o.2.1;have:=HL.o.2.2;omega
 have HM:=Y3 hm1 hm2 (show w.heap.size<=m by have:=HL.o.2.2;omega);clear HG d4 hd2 H hm1 hm2;generalize hgv:getV a.ps k=pv at*;obtain⟨s,db⟩:=pv;simp only at hR;obtain⟨w3,hw3⟩:=qqe (w2.alloc (.cells #[.int .i64 s,.bool db] 95));have hu3:=qqu hw3;have h3:=h2.new hu3;have d3:=d2.trans (h2.ki hu3);have g3:=hu3.j6 g2;have gp:=qqg hw3;have HW3:=qqh hw3;obtain⟨pb,hpb⟩:=qqe (w2.heap.size);have hpo:own2 pb=0:=h2.far _ oM;rw[<-hpb]at gp;have hpm:pb≠m:=by have:=zf g2;omega
 have HPB:=qqh hpb;have hcl2:=h2.clt;obtain⟨b0,b1,-,-,-,-,-,-,-⟩:=h2.cells;clear h2 d2 g2 hu3 hw3 hpb hcl;generalize hgc:getC a.ps k=cd at*;by_cases hc14:cd=14
 .subst hc14;rw[if_pos rfl]at hR;obtain⟨kn,rfl,hkn⟩:∃kn:Nat,k=(kn:Int)/\kn<a.bF.length:=by
   have h1:=h3.pl;have h2:=h3.gl;unfold getC at hgc;split at hgc
   .cases hgc
   .exact ⟨k.toNat,oM,oM⟩
  have HRd:=qqh (ZS h3 kn hkn);have HX:=Y4 d3 g3 hmo hR;clear h3 d3 g3 hmo hR gp hgc hgv hpo hkn hpm;go_wp2_with fail
  rw[<-HW3.o];refine HRd.out.mono ?_;rintro e w4 ⟨y,cd,hy,hcd,hyl,rfl,own4,h4,hd4⟩;obtain⟨d3,g3,hmo,hR⟩:=HX.o;have g4:=(hd4.upd.block m (zf g3) (fun h=>h.1 hmo)).trans g3;have hth:=xh g4 jV;have hmo4:own4 m=0:=(hd4.old m (zf g3)).trans hmo;obtain⟨h5,d5⟩:=xR h4 (d3.trans hd4) hmo4 HM.o.2.2 HM.o.1 HM.o.2.1 (bkC y);have H5:=Y6 h5 d5 hR hy hcd hyl;clear h4 hd4 d3 g3 hmo hR g4 hmo4 h5 d5 HRd HX hy hcd;go_wp2_with (first
   |(refine qZi rfl _ _ _ rfl _ _ (bkC y).toArray rfl rfl ja oH (qYu (zx _)) ?_)
   |fail)
  obtain⟨h5,d5,hR,hy,hcd,-⟩:=H5.o;refine qYw (zt rfl _ _ m 0 (bkC y) _ rfl (qYr _ _ _ _ jn) underlying54 rfl (zw y hyl)) rfl ?_;rw[hR];exact⟨y,cd,by rw[hy];rfl,hcd,hyl,rfl,own4,h5,d5⟩
 by_cases hc:cd=0
 rotate_left
 .rw [if_neg hc14,if_pos hc]at hR;have q0:(cd==14)=false:=by simpa using hc14
  have q1:(cd==0)=false:=by simpa using hc
  have hth:=xh g3 jV;obtain⟨h5,d5⟩:=xR h3 d3 hmo HM.o.2.2 HM.o.1 HM.o.2.1 (bkC Z);have H5:=Y3 h5 d5 hR;clear h3 d3 g3 hmo hR gp hgc hgv hpo h5 d5;rw[HW3.o]at hth;go_wp2_with (first
   |(refine yg rfl rfl HZ.o.2 ?_)
   |(refine qZi rfl _ _ _ rfl _ _ (bkC Z).toArray rfl rfl jc jf (qYu (zx _)) ?_)
   |fail)
  obtain⟨h5,d5,hR⟩:=H5.o;rw[<-HW3.o]at hth⊢;refine qYw (zt rfl _ _ m 0 (bkC Z) _ rfl (qYr _ _ _ _ jq) underlying54 rfl (zw Z hZl)) rfl ?_;rw[hR];exact⟨Z,cd,HZ.o.1,rfl,hZl,rfl,own2,h5,d5⟩
 subst hc;rw[if_neg de,if_neg de]at hR;unfold CaS.readS at hR;obtain⟨vi,mi,hix,-,-⟩:=h3.ix;obtain⟨kn,hkn,hkk,hs0,hs1,hgv2⟩:=tn hix.good hgc;rw[hgv]at hgv2;have hs0':0<=s:=by have e:=congrArg Prod.fst hgv2;simp only at e;rw[e];exact hs0
 have hs1':s<(n.sl:Int):=by have e:=congrArg Prod.fst hgv2;simp only at e;rw[e];exact hs1
 clear hix hs0 hs1 hgv2 hgv hgc hc14;obtain⟨sn,rfl⟩:∃sn:Nat,s=(sn:Int):=⟨s.toNat,oM⟩
 rw[qxu]at hR;have hk4:k<4096:=by have h1:=h3.pl;have h2:=h3.ok.b2;rw[hkk];omega
 have hk0:0<=k:=by rw[hkk];omega
 clear hkn hkk;have hfl:=h3.fl;have hz:=h3.ok.z;have hsz:n.ku+sn<a.dF.length:=by unfold CaN.size at hfl;unfold CaN.ku;omega
 have hsz2:n.ku+sn<8192:=oM;obtain⟨sc,hsc⟩:=qqe (n.ku+sn);have k1:IntKind.i64.wrap ((n.ku:Int)+(sn:Int))=(sc:Int):=by rw[hsc,qxt];exact qxv _ oM
 have K2:Hid ((n.ku:Int)+(sn:Int)=(sc:Int)):=by show _=_;rw[hsc,qxt]
 rw[<-hsc]at hR hsz;obtain⟨e0,-,-,-,-,-,-,-,-⟩:=h3.cells;obtain⟨-,-,-,e5⟩:=h3.lay;have e5:w3.cell? ⟨c,12,none⟩=some (.int .i64 (n.ku:Int)):=by rw[e5];congr 2
 have ep:=za gp 0;simp at ep;have hpl:=zf gp;have hml:=zf g3;have hud:=((uur (fun _=>False) w3).drew)
 obtain⟨wd,hwd⟩:=qqe (w3.drew);rw[<-hwd]at hud;have hd:=h3.new hud;have dd:=d3.trans (h3.ki hud);have gd:=hud.j6 g3;have epd:=hud.j4 ep id;have e0d:=hud.j4 e0 id;have e5d:=hud.j4 e5 id;have hcd:=hd.clt;have hmn:own2 m=0/\own2 pb=0:=⟨hmo,hpo⟩
 have HD:=Y10 hd dd gd hmn hR hsz hpm hk0 hk4 hwd;have hpd:pb<wd.heap.size:=by have:=hud.size;omega
 have hmd:m<wd.heap.size:=by have:=hud.size;omega
 clear h3 d3 g3 hmo hpo gp hR hfl hz hsz hsz2 hsc hpl hml hud hd dd gd hmn hpm hk0 hk4 e0 e5 ep hwd;go_upto_region 8 with fail
 rw[<-HW3.o,<-HPB.o];refine qZj (S:=fun W=>W.cell? ⟨c,14,none⟩=some (ptr p.ssd)/\W.cell? ⟨c,12,none⟩=some (.int .i64 (n.ku:Int))/\W.cell? ⟨pb,0,none⟩=some (.int .i64 (sn:Int))) kR (by rw[<-HD.o.2.2.2.2.2.2.2.2.2];exact⟨e0d,e5d,epd⟩) (fun hHeld=>?_);rw[<-HD.o.2.2.2.2.2.2.2.2.2]at hHeld⊢;refine Wl.i [0,1,2,3,4,5,6,7,8,9,10,11] ?_;iterate 12 refine Wl.t hHeld ?_
 refine Wl.o ?_;refine qZe (rs:=[12,16]) kR oe ?_;refine qxb rfl (fun K hK=>?_) (qxb rfl (fun K hK=>?_) qxc)
 .go_simp
  obtain⟨hd,dd,gd,hmn,hR,hsz,hpm,hk0,hk4,-⟩:=HD.o;refine(tR hd sc hsz).mono ?_;rintro e w4 ⟨y,cd,hy,hcd,hyl,rfl,own4,h4,hd4⟩;have HY:=Y2 hy hcd;clear hy hcd;have g4:=(hd4.upd.block m hmd (fun h=>h.1 hmn.1)).trans gd;have d4:=dd.trans hd4;have hmo4:own4 m=0:=(hd4.old m hmd).trans hmn.1;obtain⟨i0,-,-,-,-,-,-,-,-⟩:=h4.cells;obtain⟨-,-,-,i5⟩:=h4.lay;have i5:w4.cell? ⟨c,12,none⟩=some (.int .i64 (n.ku:Int)):=by rw[i5];congr 2
  have ip:=hd4.upd.j4 epd (fun h=>h.1 hmn.2);obtain⟨w5,hw5⟩:=qqe (w4.alloc (.cells (bkC Z).toArray 54));have hu5:=qqu hw5;obtain⟨g,hg⟩:=qqe (w4.heap.size);have gg5:w5.heap[g]?=some (.cells (bkC Z).toArray 54 (0,0)):=by rw[hw5,hg];exact zc w4 _ rfl
  have h5:=h4.new hu5;have d5:=d4.trans (h4.ki hu5);have g5:=hu5.j6 g4;have hgo:own4 g=0:=h4.far g oM;have hgm:w.heap.size<=g:=by have:=d4.upd.size;omega
  have hgp:g≠pb:=by have:=hd4.upd.size;omega
  have hgm2:g≠m:=by have:=hd4.upd.size;omega
  have hgc:g≠c:=by have:=h4.clt;omega
  have hgn:g≠0/\g≠1:=by have h1:=h4.nib.lt;have h2:=h4.tur.lt;constructor<;>omega
  have j0:=hu5.j4 i0 id;have j5:=hu5.j4 i5 id;have jp:=hu5.j4 ip id;have HW:=Y2 hw5 hg;clear hw5 hg hu5 h4 d4 hd4 g4 hmn gd dd hd;refine hK.o _ _ (⟨i0,i5,ip⟩) (fun hH1=>?_);clear hK K;refine Wl.i [13,14,15] ?_;iterate 3 refine Wl.t hH1 ?_
  refine Wl.o ?_;refine Wl.r 16 (fun K hK=>?_);refine qC rfl _ rfl _ (wk Z HZ.o.1) ?_;rw[<-HW.o.1,<-HW.o.2];simp only[Act.put,qXi];refine hK.o _ _ (⟨j0,j5,jp⟩) (fun hH2=>?_);clear hK K;refine Wl.r 17 (fun K hK=>?_);rw[if_pos oD];have hthg:=xh gg5 jW;obtain⟨h6,d6⟩:=xR h5 d5 hgo hgm hgn.1 hgn.2 (bkC y);have r6:(w5.setCells g 0 (bkC y)).rangeAt g 0 (bkC y):=qYr _ _ _ _ (by rw[zo,hyl];exact hthg);have hus:=zq w5 g 0 (bkC y);have g6:=(hus.block m (zf g5) (fun e=>hgm2 e.symm)).trans g5;have l0:=hus.j4 j0 (fun e=>hgc e.symm);have l5:=hus.j4 j5 (fun e=>hgc e.symm);have lp:=hus.j4 jp (fun e=>hgp e.symm);refine qZk _ _ _ rfl _ _ (bkC y).toArray rfl rfl (by rw[zp _ hyl];exact hthg) oH (qYu (zx _)) ?_;simp only[Act.put];refine hK.o _ _ (⟨l0,l5,lp⟩) (fun hH3=>?_);clear hK K;refine Wl.r 18 (fun K hK=>?_);go_simp
  refine hK.o _ _ (hH3) (fun _=>?_);clear hK K;refine Wl.d ?_;obtain⟨w6,hw6⟩:=qqe (w5.setCells g 0 (bkC y));rw[<-hw6]at h6 d6 r6 g6⊢;have hgo6:own4 g=0:=hgo;have H6:=Y13 h6 d6 r6 g6 hmo4 hR HY.o.1 HY.o.2 hgo6 hgm hgm2 hk0 hk4;clear h6 d6 r6 g6 hmo4 hR HY hgo6 hgo hgm hgm2 hgp hgn hk0 hk4 h5 d5 gg5 g5 j0 j5 jp i0 i5 ip l0 l5 lp hus hthg hw6 hHeld hH1 hH2 hH3 HW hgc e0d e5d epd;by_cases hc:cd=0
  rotate_left
  .have q0:(cd==0)=false:=by simpa using hc
   obtain⟨h6,d6,-,g6,hmo4,hR,hy,hcd,-⟩:=H6.o;have hf:fate a.dP=1:=by
    refine Decidable.byContradiction fun hf=>?_;rw[if_neg hf]at hcd;exact hc hcd
   rw[if_pos hf]at hR hcd;have hth:=xh g6 jV;obtain⟨h7,d7⟩:=xR h6 d6 hmo4 HM.o.2.2 HM.o.1 HM.o.2.1 (bkC Z);have H7:=Y4 h7 d7 hR hcd;clear h6 d6 g6 hmo4 hR hy hcd h7 d7 hf H6;go_wp2_with (first
    |(refine yg rfl rfl HZ.o.2 ?_)
    |(refine qZi rfl _ _ _ rfl _ _ (bkC Z).toArray rfl rfl jc jf (qYu (zx _)) ?_)
    |fail)
   obtain⟨h7,d7,hR,hcd⟩:=H7.o;refine qYw (zt rfl _ _ m 0 (bkC Z) _ rfl (qYr _ _ _ _ jq) underlying54 rfl (zw Z hZl)) rfl ?_;rw[hR];exact⟨Z,cd,HZ.o.1,hcd,hZl,rfl,own4,h7,d7⟩
  subst hc;obtain⟨h6,d6,r6,g6,hmo4,hR,hy,hcd,hgo6,hgm,hgm2,hk0,hk4⟩:=H6.o;have hf:¬fate a.dP=1:=fun hf=>by rw[if_pos hf]at hcd;cases hcd
  rw[if_neg hf]at hR hy;rw[<-hy]at hR;have hud:=((uur (fun _=>False) w6).drew)
  obtain⟨w7,hw7⟩:=qqe (w6.drew);rw[<-hw7]at hud;obtain⟨w8,hw8⟩:=qqe (w7.alloc (.cells #[.slice (some ⟨g,0,none⟩) 64 64] 205));have hu8:=qqu hw8;have g8:=qqg hw8;have h7:=h6.new hud;have h8:=h7.new hu8;have r8:=hu8.range (hud.range r6 id) id;obtain⟨sm,hsm⟩:=qqe ((a.sums k).getD 0);rw[<-hsm]at hR;have hMM:∀X,Upd (fun _=>False) w6 X->X.cell? ⟨c,22,none⟩=some (.map (some p.sm))/\(Instr.lookup 116 (.map (some p.sm)) (.int .i64 k) false).run prog X=.ok (.int .i64 (sm:Int)) X:=by
   intro X hX;have hCA:=h6.new hX;obtain⟨-,-,-,-,-,-,-,-,c22⟩:=hCA.cells;refine⟨c22,?_⟩;rw[hsm];exact hCA.sm.1.look1 oM oM
  have m7:=hMM _ hud;have m8:=hMM _ (hud.trans hu8);have HS:=qqh (un (cl:=1) y h8.nib (za g8 0) r8 hyl oM oM);have HM9:Hid (∀w9,Below w8.heap.size w8 w9->(CaAt own4 w9 c n p {a with dP:=a.dP.tail}/\Did own own4 w w9)/\w9.rangeAt g 0 (bkC y)/\w9.heap[m]?=some (.cells (bkC zB).toArray 54 (0,0))/\(w9.cell? ⟨c,22,none⟩=some (.map (some p.sm))/\(Instr.lookup 116 (.map (some p.sm)) (.int .i64 k) false).run prog w9=.ok (.int .i64 (sm:Int)) w9)):=by
   intro w9 hb9;have hu9:=(hud.trans hu8).trans (uuo (S:=fun _=>False) hb9);exact⟨⟨h6.new hu9,d6.trans (h6.ki hu9)⟩,hu9.range r6 id,hu9.j6 g6,hMM _ hu9⟩
  have HX:=Y6 hR hmo4 hw7 hw8 hsm hgm2;clear h6 d6 r6 g6 hmo4 hR hy hcd hgo6 hgm hgm2 hf hud hu8 g8 h7 h8 r8 hMM hw7 hw8 hsm H6 hk0 hk4;go_upto_region 11 with fail
  refine qZj (S:=fun W=>W.cell? ⟨c,22,none⟩=some (.map (some p.sm))/\(Instr.lookup 116 (.map (some p.sm)) (.int .i64 k) false).run prog W=.ok (.int .i64 (sm:Int)) W) kR (by rw[<-HX.o.2.2.1];exact m7) (fun _=>?_);rw[<-HX.o.2.2.1];have hHeld:=m7;refine Wl.i [0,3,4,5,6,7,8] ?_;iterate 7 refine Wl.t hHeld ?_
  refine Wl.o ?_;refine Wl.r 1 (fun K hK=>?_);go_simp
  rw[<-HX.o.2.2.2.1];refine hK.o _ _ (m8) (fun hH1=>?_);clear hK K;refine Wl.r 2 (fun K hK=>?_);go_simp
  refine HS.o.mono ?_;rintro e w9 ⟨rfl,hb9⟩;obtain⟨hcd9,r9,g9,m9⟩:=HM9.o w9 hb9;have H9:=Y3 hcd9 r9 g9;refine hK.o _ _ (m9) (fun hH2=>?_);clear hK K;refine Wl.i [9] (Wl.t hH2 (Wl.o ?_));refine Wl.d ?_;clear hHeld hH1 hH2 m7 m8 m9 HS HM9 hb9 hcd9 g9;obtain⟨hR,hmo4,-,-,-,-⟩:=HX.o;have hth:=xh H9.o.2.2 jV;by_cases hq:crcC y=sm
  rotate_left
  .rw [if_neg hq]at hR;have q1:((crcC y:Int)==(sm:Int))=false:=by simpa using fun e=>hq oM
   have q2:((crcC y:Int) !=(sm:Int))=true:=by simp[bne,q1]
   obtain⟨h7,d7⟩:=xR H9.o.1.1 H9.o.1.2 hmo4 HM.o.2.2 HM.o.1 HM.o.2.1 (bkC Z);have H7:=Y3 h7 d7 hR;clear h7 d7 hR hmo4 r9 hq;go_wp2_with (first
    |(refine yg rfl rfl HZ.o.2 ?_)
    |(refine qZi rfl _ _ _ rfl _ _ (bkC Z).toArray rfl rfl jc jf (qYu (zx _)) ?_)
    |fail)
   obtain⟨h7,d7,hR⟩:=H7.o;refine qYw (zt rfl _ _ m 0 (bkC Z) _ rfl (qYr _ _ _ _ jq) underlying54 rfl (zw Z hZl)) rfl ?_;rw[hR];exact⟨Z,13,HZ.o.1,rfl,hZl,rfl,own4,h7,d7⟩
  rw[if_pos hq]at hR;have q1:((crcC y:Int)==(sm:Int))=true:=by rw[hq];simp
  have q2:((crcC y:Int) !=(sm:Int))=false:=by simp[bne,q1]
  obtain⟨h7,d7⟩:=xR H9.o.1.1 H9.o.1.2 hmo4 HM.o.2.2 HM.o.1 HM.o.2.1 (bkC y);have H7:=Y3 h7 d7 hR;clear h7 d7 hR hmo4 hq;go_wp2_with (first
   |(refine qZg rfl _ _ rfl _ _ rfl _ _ r9 underlying54 rfl (zw y hyl) ?_)
   |(refine qZi rfl _ _ _ rfl _ _ (bkC y).toArray rfl rfl ja oH (qYu (zx _)) ?_)
   |fail)
  obtain⟨h7,d7,hR⟩:=H7.o;refine qYw (zt rfl _ _ m 0 (bkC y) _ rfl (qYr _ _ _ _ jn) underlying54 rfl (zw y hyl)) rfl ?_;rw[hR];exact⟨y,0,rfl,rfl,hyl,rfl,own4,h7,d7⟩
 .refine qC rfl _ rfl _ (wk Z HZ.o.1) ?_;simp only[Act.put,qXi];obtain⟨hd,dd,gd,hmn,hR,hsz,hpm,hk0,hk4,-⟩:=HD.o;obtain⟨w4,hw4⟩:=qqe (wd.alloc (.cells (bkC Z).toArray 54));have hu4:=qqu hw4;obtain⟨g,hg⟩:=qqe (wd.heap.size);have gg4:w4.heap[g]?=some (.cells (bkC Z).toArray 54 (0,0)):=by rw[hw4,hg];exact zc wd _ rfl
  rw[<-hw4,<-hg];have i0:=hu4.j4 e0d id;have i5:=hu4.j4 e5d id;have ip:=hu4.j4 epd id;have h4:=hd.new hu4;have d4:=dd.trans (hd.ki hu4);have g4:=hu4.j6 gd;have hgo2:own2 g=0:=hd.far g oM;have hgm:w.heap.size<=g:=by have:=dd.upd.size;omega
  have hgp:g≠pb:=oM;have hgm2:g≠m:=oM;have hgc:g≠c:=oM;have hgn:g≠0/\g≠1:=by have h1:=hd.nib.lt;have h2:=hd.tur.lt;constructor<;>omega
  have HQ:=qqh (tR h4 sc hsz);have H4:=Y6 d4 g4 gg4 hgo2 hmn hR;have HW:=Y2 hw4 hg;clear hw4 hg hu4 h4 d4 g4 gg4 hgo2 hmn hR dd gd hd;refine hK.o _ _ (⟨i0,i5,ip⟩) (fun hH1=>?_);clear hK K;refine Wl.r 12 (fun K hK=>?_);go_simp
  refine HQ.o.mono ?_;rintro e w5 ⟨y,cd,hy,hcd,hyl,rfl,own4,h5,hd5⟩;have HY:=Y2 hy hcd;clear hy hcd HQ;obtain⟨d4,g4,gg4,hgo2,hmn,hR⟩:=H4.o;have g5:=(hd5.upd.block m (zf g4) (fun h=>h.1 hmn.1)).trans g4;have gg5:=(hd5.upd.block g (zf gg4) (fun h=>h.1 hgo2)).trans gg4;have d5:=d4.trans hd5;have hmo4:own4 m=0:=(hd5.old m (zf g4)).trans hmn.1;have hgo:own4 g=0:=(hd5.old g (zf gg4)).trans hgo2;obtain⟨j0,-,-,-,-,-,-,-,-⟩:=h5.cells;obtain⟨-,-,-,j5⟩:=h5.lay;have j5:w5.cell? ⟨c,12,none⟩=some (.int .i64 (n.ku:Int)):=by rw[j5];congr 2
  have jp:=hd5.upd.j4 ip (fun h=>h.1 hmn.2);clear d4 g4 gg4 hgo2 hmn hd5 H4;refine hK.o _ _ (⟨j0,j5,jp⟩) (fun hH2=>?_);clear hK K;refine Wl.i [13,14,15] ?_;iterate 3 refine Wl.t hH2 ?_
  refine Wl.o ?_;refine Wl.r 17 (fun K hK=>?_);rw[if_pos oD];have hthg:=xh gg5 jW;obtain⟨h6,d6⟩:=xR h5 d5 hgo hgm hgn.1 hgn.2 (bkC y);have r6:(w5.setCells g 0 (bkC y)).rangeAt g 0 (bkC y):=qYr _ _ _ _ (by rw[zo,hyl];exact hthg);have hus:=zq w5 g 0 (bkC y);have g6:=(hus.block m (zf g5) (fun e=>hgm2 e.symm)).trans g5;have l0:=hus.j4 j0 (fun e=>hgc e.symm);have l5:=hus.j4 j5 (fun e=>hgc e.symm);have lp:=hus.j4 jp (fun e=>hgp e.symm);refine qZk _ _ _ rfl _ _ (bkC y).toArray rfl rfl (by rw[zp _ hyl];exact hthg) oH (qYu (zx _)) ?_;simp only[Act.put,qXi];refine hK.o _ _ (⟨l0,l5,lp⟩) (fun hH3=>?_);clear hK K;refine Wl.r 18 (fun K hK=>?_);go_simp
  refine hK.o _ _ (hH3) (fun _=>?_);clear hK K;refine Wl.d ?_;obtain⟨w6,hw6⟩:=qqe (w5.setCells g 0 (bkC y));rw[<-hw6]at h6 d6 r6 g6⊢;have hgo6:own4 g=0:=hgo;have H6:=Y13 h6 d6 r6 g6 hmo4 hR HY.o.1 HY.o.2 hgo6 hgm hgm2 hk0 hk4;clear h6 d6 r6 g6 hmo4 hR HY hgo6 hgo hgm hgm2 hgp hgn hk0 hk4 h5 d5 gg5 g5 j0 j5 jp i0 i5 ip l0 l5 lp hus hthg hw6 hHeld hH1 hH2 hH3 HW hgc e0d e5d epd;by_cases hc:cd=0
  rotate_left
  .have q0:(cd==0)=false:=by simpa using hc
   obtain⟨h6,d6,-,g6,hmo4,hR,hy,hcd,-⟩:=H6.o;have hf:fate a.dP=1:=by
    refine Decidable.byContradiction fun hf=>?_;rw[if_neg hf]at hcd;exact hc hcd
   rw[if_pos hf]at hR hcd;have hth:=xh g6 jV;obtain⟨h7,d7⟩:=xR h6 d6 hmo4 HM.o.2.2 HM.o.1 HM.o.2.1 (bkC Z);have H7:=Y4 h7 d7 hR hcd;clear h6 d6 g6 hmo4 hR hy hcd h7 d7 hf H6;go_wp2_with (first
    |(refine yg rfl rfl HZ.o.2 ?_)
    |(refine qZi rfl _ _ _ rfl _ _ (bkC Z).toArray rfl rfl jc jf (qYu (zx _)) ?_)
    |fail)
   obtain⟨h7,d7,hR,hcd⟩:=H7.o;refine qYw (zt rfl _ _ m 0 (bkC Z) _ rfl (qYr _ _ _ _ jq) underlying54 rfl (zw Z hZl)) rfl ?_;rw[hR];exact⟨Z,cd,HZ.o.1,hcd,hZl,rfl,own4,h7,d7⟩
  subst hc;obtain⟨h6,d6,r6,g6,hmo4,hR,hy,hcd,hgo6,hgm,hgm2,hk0,hk4⟩:=H6.o;have hf:¬fate a.dP=1:=fun hf=>by rw[if_pos hf]at hcd;cases hcd
  rw[if_neg hf]at hR hy;rw[<-hy]at hR;have hud:=((uur (fun _=>False) w6).drew)
  obtain⟨w7,hw7⟩:=qqe (w6.drew);rw[<-hw7]at hud;obtain⟨w8,hw8⟩:=qqe (w7.alloc (.cells #[.slice (some ⟨g,0,none⟩) 64 64] 205));have hu8:=qqu hw8;have g8:=qqg hw8;have h7:=h6.new hud;have h8:=h7.new hu8;have r8:=hu8.range (hud.range r6 id) id;obtain⟨sm,hsm⟩:=qqe ((a.sums k).getD 0);rw[<-hsm]at hR;have hMM:∀X,Upd (fun _=>False) w6 X->X.cell? ⟨c,22,none⟩=some (.map (some p.sm))/\(Instr.lookup 116 (.map (some p.sm)) (.int .i64 k) false).run prog X=.ok (.int .i64 (sm:Int)) X:=by
   intro X hX;have hCA:=h6.new hX;obtain⟨-,-,-,-,-,-,-,-,c22⟩:=hCA.cells;refine⟨c22,?_⟩;rw[hsm];exact hCA.sm.1.look1 oM oM
  have m7:=hMM _ hud;have m8:=hMM _ (hud.trans hu8);have HS:=qqh (un (cl:=1) y h8.nib (za g8 0) r8 hyl oM oM);have HM9:Hid (∀w9,Below w8.heap.size w8 w9->(CaAt own4 w9 c n p {a with dP:=a.dP.tail}/\Did own own4 w w9)/\w9.rangeAt g 0 (bkC y)/\w9.heap[m]?=some (.cells (bkC zB).toArray 54 (0,0))/\(w9.cell? ⟨c,22,none⟩=some (.map (some p.sm))/\(Instr.lookup 116 (.map (some p.sm)) (.int .i64 k) false).run prog w9=.ok (.int .i64 (sm:Int)) w9)):=by
   intro w9 hb9;have hu9:=(hud.trans hu8).trans (uuo (S:=fun _=>False) hb9);exact⟨⟨h6.new hu9,d6.trans (h6.ki hu9)⟩,hu9.range r6 id,hu9.j6 g6,hMM _ hu9⟩
  have HX:=Y6 hR hmo4 hw7 hw8 hsm hgm2;clear h6 d6 r6 g6 hmo4 hR hy hcd hgo6 hgm hgm2 hf hud hu8 g8 h7 h8 r8 hMM hw7 hw8 hsm H6 hk0 hk4;go_upto_region 11 with fail
  refine qZj (S:=fun W=>W.cell? ⟨c,22,none⟩=some (.map (some p.sm))/\(Instr.lookup 116 (.map (some p.sm)) (.int .i64 k) false).run prog W=.ok (.int .i64 (sm:Int)) W) kR (by rw[<-HX.o.2.2.1];exact m7) (fun _=>?_);rw[<-HX.o.2.2.1];have hHeld:=m7;refine Wl.i [0,3,4,5,6,7,8] ?_;iterate 7 refine Wl.t hHeld ?_
  refine Wl.o ?_;refine Wl.r 1 (fun K hK=>?_);go_simp
  rw[<-HX.o.2.2.2.1];refine hK.o _ _ (m8) (fun hH1=>?_);clear hK K;refine Wl.r 2 (fun K hK=>?_);go_simp
  refine HS.o.mono ?_;rintro e w9 ⟨rfl,hb9⟩;obtain⟨hcd9,r9,g9,m9⟩:=HM9.o w9 hb9;have H9:=Y3 hcd9 r9 g9;refine hK.o _ _ (m9) (fun hH2=>?_);clear hK K;refine Wl.i [9] (Wl.t hH2 (Wl.o ?_));refine Wl.d ?_;clear hHeld hH1 hH2 m7 m8 m9 HS HM9 hb9 hcd9 g9;obtain⟨hR,hmo4,-,-,-,-⟩:=HX.o;have hth:=xh H9.o.2.2 jV;by_cases hq:crcC y=sm
  rotate_left
  .rw [if_neg hq]at hR;have q1:((crcC y:Int)==(sm:Int))=false:=by simpa using fun e=>hq oM
   have q2:((crcC y:Int) !=(sm:Int))=true:=by simp[bne,q1]
   obtain⟨h7,d7⟩:=xR H9.o.1.1 H9.o.1.2 hmo4 HM.o.2.2 HM.o.1 HM.o.2.1 (bkC Z);have H7:=Y3 h7 d7 hR;clear h7 d7 hR hmo4 r9 hq;go_wp2_with (first
    |(refine yg rfl rfl HZ.o.2 ?_)
    |(refine qZi rfl _ _ _ rfl _ _ (bkC Z).toArray rfl rfl jc jf (qYu (zx _)) ?_)
    |fail)
   obtain⟨h7,d7,hR⟩:=H7.o;refine qYw (zt rfl _ _ m 0 (bkC Z) _ rfl (qYr _ _ _ _ jq) underlying54 rfl (zw Z hZl)) rfl ?_;rw[hR];exact⟨Z,13,HZ.o.1,rfl,hZl,rfl,own4,h7,d7⟩
  rw[if_pos hq]at hR;have q1:((crcC y:Int)==(sm:Int))=true:=by rw[hq];simp
  have q2:((crcC y:Int) !=(sm:Int))=false:=by simp[bne,q1]
  obtain⟨h7,d7⟩:=xR H9.o.1.1 H9.o.1.2 hmo4 HM.o.2.2 HM.o.1 HM.o.2.1 (bkC y);have H7:=Y3 h7 d7 hR;clear h7 d7 hR hmo4 hq;go_wp2_with (first
   |(refine qZg rfl _ _ rfl _ _ rfl _ _ r9 underlying54 rfl (zw y hyl) ?_)
   |(refine qZi rfl _ _ _ rfl _ _ (bkC y).toArray rfl rfl ja oH (qYu (zx _)) ?_)
   |fail)
  obtain⟨h7,d7,hR⟩:=H7.o;refine qYw (zt rfl _ _ m 0 (bkC y) _ rfl (qYr _ _ _ _ jn) underlying54 rfl (zw y hyl)) rfl ?_;rw[hR];exact⟨y,0,rfl,rfl,hyl,rfl,own4,h7,d7⟩
end
section
variable{n:CaN}{a:CaS}{N:Nat}
theorem CaS.takeR_next(n:CaN)(a:CaS)(s:Int):a.next<=(a.kE n s).1.next:=by
 have h:=(a.j9 n).1;unfold CaS.kE;split
 .show a.next<=(a.j8 n).1.next;omega
 .show a.next<=(a.j8 n).1.next;omega
theorem CaS.take2_next(n:CaN)(a:CaS):a.next<=(a.kG n).1.next:=by
 have h:=(a.committed_next n).1;unfold CaS.kG;split
 .exact qXv _
 .unfold CaS.take3;split
  .show a.next<=(a.kh n).1.next;omega
  split
  .show a.next<=(a.kh n).1.next;omega
  .exact qXx (by show a.next<=(a.kh n).1.next;omega) ((a.kh n).1.al.takeR_next n _)
theorem CaS.takes_next(n:CaN)(a:CaS):a.next<=(a.kj n).1.next:=by
 have h:=CaS.evicts_next n 1 0 a.al;unfold CaS.kj;split
 .exact a.al.takeR_next n _
 .unfold CaS.take1;split
  .split
   .exact h
   .exact qXx h ((CaS.kq n 1 0 a.al).1.take2_next n)
  .exact a.al.take2_next n
theorem CaS.Fit.kD(h:a.Fit N)(hg:a.Jg n)(h1:1<=a.next)(hj:4<=n.jo)(k:Nat)(x:Bk):(a.kD n k x).1.Fit (N+3*n.pa+n.jo+6):=by
 have ht:=h.takes' hg h1 hj;have hn:=a.takes_next n;unfold CaS.kD;split
 .exact ht.mono oM
 split
 .exact (ht.ko oM k x).mono oM
 .have hf:=ht.kp (n:=n) (a.kj n).2.1.toNat (k:Int) x;have hfn:=(yL n (a.kj n).1 (a.kj n).2.1.toNat (k:Int) x).1;unfold CaS.backS;split
  .exact hf.mono oM
  .exact (hf.kw oM (k:Int) _ (crcC x) true (by have:=vq x;omega)).mono oM
theorem CaS.Fit.thru(h:a.Fit N)(hg:a.Jg n)(h1:1<=a.next)(hj:4<=n.jo)(k:Nat)(x:Bk):(a.thru n k x).1.Fit (N+3*n.pa+n.jo+6):=by
 have ht:=h.takes' hg h1 hj;have hn:=a.takes_next n;unfold CaS.thru;split
 .exact ht.mono oM
 split
 .exact (ht.ko oM k x).mono oM
 .have hb:=ht.bw k x;unfold CaS.thruS;split
  .exact (hb.turned _).mono oM
  .have hf:=hb.kp (n:=n) (a.kj n).2.1.toNat (k:Int) x;have hfn:=(yL n ((a.kj n).1.kz (writeR (a.kj n).1.bF (a.kj n).1.bO (a.kj n).1.bP k x)) (a.kj n).2.1.toNat (k:Int) x).1;replace hfn:_=(a.kj n).1.next:=hfn;unfold CaS.thruF;split
   .exact (hf.byp (by rw[hfn];omega) k).mono oM
   .exact (hf.kw (by rw[hfn];omega) (k:Int) _ (crcC x) false (by have:=vq x;omega)).mono oM
theorem CaS.Fit.kF(h:a.Fit N)(hg:a.Jg n)(h1:1<=a.next)(hj:4<=n.jo)(k:Int)(x:Bk)(md:Int):(a.kF n k x md).1.Fit (N+3*n.pa+n.jo+6):=by
 unfold CaS.kF;split
 .exact h.mono oM
 split
 .exact h.mono oM
 split
 .exact h.kD hg h1 hj _ x
 split
 .exact h.thru hg h1 hj _ x
 .exact (h.ko h1 _ x).mono oM
theorem CaS.Fit.gone(h:a.Fit N)(h1:1<=a.next)(k:Int):(a.gone n k).1.Fit (N+n.pa+2):=by
 unfold CaS.gone;split
 .exact h.mono oM
 .exact h.ko h1 _ _
theorem CaS.Tie.backS{s k:Nat}(h:a.Tie n (some s))(hk:k<n.bl)(x:Bk):(a.backS n k s x).1.Tie n none:=by
 unfold CaS.backS;rcases CaS.Tie.kp h (k:Int) x with⟨hc,ht⟩|⟨hc,ht⟩
 .rw [if_neg oM];exact(CaS.Tie.put ht hk (crcC x) true).2.2
 .rw [if_pos hc];exact ht
theorem CaS.Tie.thruS{s k:Nat}(h:a.Tie n (some s))(hk:k<n.bl)(x:Bk):(a.thruS n k s x).1.Tie n none:=by
 unfold CaS.thruS;split
 .exact (TieL.shut h (.inl rfl)).2
 .unfold CaS.thruF;have h':(a.kz (writeR a.bF a.bO a.bP k x)).Tie n (some s):=h;rcases CaS.Tie.kp h' (k:Int) x with⟨hc,ht⟩|⟨hc,ht⟩
  .rw [if_neg oM];exact(CaS.Tie.put ht hk (crcC x) false).2.2
  .rw [if_pos hc];exact CaS.Tie.byp ht k
theorem CaS.Tie.kD(h:a.Tie n none)(h1:1<=a.next)(hj:4<=n.jo){k:Nat}(hk:k<n.bl)(x:Bk):(a.kD n k x).1.Tie n none:=by
 have ht:=CaS.Tie.kj h h1 hj;unfold CaS.kD;rcases ht with⟨h2,h3,-,s,h4,h5⟩|⟨h2,h5⟩
 .rw [if_neg oM,if_neg (by rw[h2];decide),h4,qxu];exact CaS.Tie.backS h5 hk x
 .split
  .exact h5
  .exact CaS.Tie.ko h5 k x
theorem CaS.Tie.thru(h:a.Tie n none)(h1:1<=a.next)(hj:4<=n.jo){k:Nat}(hk:k<n.bl)(x:Bk):(a.thru n k x).1.Tie n none:=by
 have ht:=CaS.Tie.kj h h1 hj;unfold CaS.thru;rcases ht with⟨h2,h3,-,s,h4,h5⟩|⟨h2,h5⟩
 .rw [if_neg oM,if_neg (by rw[h2];decide),h4,qxu];exact CaS.Tie.thruS h5 hk x
 .split
  .exact h5
  .exact CaS.Tie.ko h5 k x
theorem CaS.Tie.kF(h:a.Tie n none)(h1:1<=a.next)(hj:4<=n.jo)(k:Int)(x:Bk)(md:Int):(a.kF n k x md).1.Tie n none:=by
 unfold CaS.kF;split
 .exact h
 next hk=>
 split
 .exact h
 split
 .exact CaS.Tie.kD h h1 hj oM x
 split
 .exact CaS.Tie.thru h h1 hj oM x
 .exact CaS.Tie.ko h _ x
theorem CaS.Tie.gone(h:a.Tie n none)(k:Int):(a.gone n k).1.Tie n none:=by
 unfold CaS.gone;split
 .exact h
 .exact CaS.Tie.ko h _ _
end
theorem wg(n k:Nat):plc (List.replicate n (-1,false)) k=(-1,false):=by
 rw[plc,qyh,qys];split<;>rfl
theorem vl(n s:Nat):(List.replicate n (0:Int)).getD s 0=0:=by
 rw[qyh,qys];split<;>rfl
theorem tw(bl sl:Nat):TieL bl sl (List.replicate bl (-1,false)) (List.replicate sl 0) [] none:={
  hpl:=qzi
  hsl:=qzi
  good:=Good.start _ _
  live:=fun k _ hn=>absurd (wg _ k) hn
  used:=fun s _ h2=>by rw[vl]at h2;cases h2
  opn:=fun s _=>by rw[vl];simp
  rng:=fun s _=>by rw[vl];decide
  olt:=fun s h=>by cases h
  kk:=fun k=>by
   rw[zX];constructor
   .intro h;cases h
   .rintro ⟨m,-,-,hn⟩;exact absurd (wg _ m) hn
  kd:=qXc}
theorem Sd(n:CaN):(zcy n).Tie n none:=(tw n.bl n.sl).freed
def Pl(P:List Int):Prop:=∀x∈P,x=0\/x=1
theorem Pl.tail{P:List Int}(h:Pl P):Pl P.tail:=fun x hx=>h x (List.mem_of_mem_tail hx)
theorem Pl.fate{P:List Int}(h:Pl P):fate P=0\/fate P=1:=by
 cases P with
 |nil=>exact .inl rfl
 |cons x P=>exact h x oe
theorem tx(F:List Bk)(O:List (Nat×Bk))(t:Nat)(y:Bk)(s:Nat):curB F (O++[(t,y)]) s=if t=s/\t<F.length then y else curB F O s:=by
 have e:flushF F (O++[(t,y)])=(flushF F O).set t y:=by simp[flushF]
 unfold curB;rw[e,yh,zG]
structure Kp(b:Nat)(F:List Bk)(O:List (Nat×Bk))(P:List Int)(r:DRes):Prop where
 len:r.F.length=F.length
 cur:∀s,b<=s->curB r.F r.O s=curB F O s
 pl:Pl P->Pl r.P
 no:P=[]->r.P=[]
theorem Kp.trans{b:Nat}{F:List Bk}{O:List (Nat×Bk)}{P:List Int}{r q:DRes}(h1:Kp b F O P r)(h2:Kp b r.F r.O r.P q):Kp b F O P q:=
 ⟨h2.len.trans h1.len,fun s hs=>(h2.cur s hs).trans (h1.cur s hs),fun h=>h2.pl (h1.pl h),fun h=>h2.no (h1.no h)⟩
theorem tC(b:Nat)(F:List Bk)(O:List (Nat×Bk))(P:List Int):Kp b F O P (flushR F O P):=by
 unfold flushR;split
 .exact ⟨rfl,fun _ _=>rfl,Pl.tail,fun h=>by rw[h];rfl⟩
 split
 .exact ⟨zG _ _,fun _ _=>rfl,Pl.tail,fun h=>by rw[h];rfl⟩
 .exact ⟨rfl,fun _ _=>rfl,Pl.tail,fun h=>by rw[h];rfl⟩
theorem TI(b:Nat)(F:List Bk)(O:List (Nat×Bk))(P:List Int)(t:Nat)(y:Bk)(ht:t<b):Kp b F O P (writeR F O P t y):=by
 unfold writeR;split
 .exact ⟨rfl,fun _ _=>rfl,Pl.tail,fun h=>by rw[h];rfl⟩
 split
 .exact ⟨rfl,fun s hs=>by rw[tx,if_neg oM],Pl.tail,fun h=>by rw[h];rfl⟩
 .exact ⟨rfl,fun _ _=>rfl,Pl.tail,fun h=>by rw[h];rfl⟩
theorem Va(F:List Bk)(O:List (Nat×Bk)):flushR F O []=⟨flushF F O,[],[],0⟩:=rfl
theorem Vb(F:List Bk)(O:List (Nat×Bk))(t:Nat)(y:Bk):writeR F O [] t y=⟨F,O++[(t,y)],[],0⟩:=rfl
theorem Ex(b:Nat)(F:List Bk)(L:List (Nat×Bk)):∀O P,(∀q∈L,q.1<b)->Kp b F O P (wrsR F L O P):=by
 induction L with
 |nil=>intro O P _;exact⟨rfl,fun _ _=>rfl,fun h=>h,fun h=>h⟩
 |cons x L ih=>
  intro O P hL;have h1:=TI b F O P x.1 x.2 (hL x oe);have hF:=yv F O P x.1 x.2;simp only[wrsR];split
  .have h2:=ih (writeR F O P x.1 x.2).O (writeR F O P x.1 x.2).P (fun q hq=>hL q (by simp[hq]));exact Kp.trans h1 (by rw[hF];exact h2)
  .exact h1
theorem Se(F:List Bk)(L:List (Nat×Bk)):∀O,(wrsR F L O []).cd=0/\(wrsR F L O []).P=[]:=by
 induction L with
 |nil=>intro O;exact⟨rfl,rfl⟩
 |cons x L ih=>intro O;rw[wrsR_yes rfl];exact ih _
theorem Sf(b:Nat)(F:List Bk)(O:List (Nat×Bk))(P:List Int)(L:List (Nat×Bk))(hL:∀q∈L,q.1<b):Kp b F O P (saveR F O P L):=by
 have h1:=Ex b F L O P hL;have hF:=tf F L O P;unfold saveR;split
 .exact Kp.trans h1 (by rw[hF];exact tC b F _ _)
 .exact h1
theorem TJ(F:List Bk)(O:List (Nat×Bk))(L:List (Nat×Bk)):(saveR F O [] L).cd=0:=by
 obtain⟨h1,h2⟩:=Se F L O;unfold saveR;rw[if_pos h1,h2];rfl
structure CaS.Same(n:CaN)(x y:CaS):Prop where
 dl:y.dF.length=x.dF.length
 bl:y.bF.length=x.bF.length
 d:∀s,n.ku<=s->curB y.dF y.dO s=curB x.dF x.dO s
 b:∀s,curB y.bF y.bO s=curB x.bF x.bO s
 ps:y.ps=x.ps
 sums:y.sums=x.sums
 pd:Pl x.dP->Pl y.dP
 pb:Pl x.bP->Pl y.bP
 nd:x.dP=[]->y.dP=[]
 nb:x.bP=[]->y.bP=[]
section
variable{n:CaN}{a b c:CaS}
theorem CaS.Same.refl(n:CaN)(a:CaS):CaS.Same n a a:=⟨rfl,rfl,fun _ _=>rfl,fun _=>rfl,rfl,rfl,fun h=>h,fun h=>h,fun h=>h,fun h=>h⟩
theorem CaS.Same.trans(h:CaS.Same n a b)(g:CaS.Same n b c):CaS.Same n a c:=
 ⟨g.dl.trans h.dl,g.bl.trans h.bl,fun s hs=>(g.d s hs).trans (h.d s hs),fun s=>(g.b s).trans (h.b s),g.ps.trans h.ps,g.sums.trans h.sums,fun x=>g.pd (h.pd x),fun x=>g.pb (h.pb x),fun x=>g.nd (h.nd x),fun x=>g.nb (h.nb x)⟩
theorem CaS.Same.onD{r:DRes}(h:Kp n.ku a.dF a.dO a.dP r):CaS.Same n a (a.dev r):={CaS.Same.refl n a with dl:=h.len,d:=h.cur,pd:=h.pl,nd:=h.no}
theorem CaS.Same.onB{r:DRes}(h:Kp 0 a.bF a.bO a.bP r):CaS.Same n a (a.kz r):={CaS.Same.refl n a with bl:=h.len,b:=fun s=>h.cur s (qYf _),pb:=h.pl,nb:=h.no}
theorem CaS.same_fb(n:CaN)(a:CaS):CaS.Same n a a.fb:=CaS.Same.onB (tC 0 _ _ _)
theorem CaS.same_fd(n:CaN)(a:CaS):CaS.Same n a a.fd:=CaS.Same.onD (tC _ _ _ _)
theorem CaS.svR_kp(n:CaN)(a:CaS):Kp n.ku a.dF a.dO a.dP (a.svR n):=by
 refine Sf _ _ _ _ _ fun q hq=>?_;obtain⟨i,hi,rfl⟩:=qzv.1 hq;have hi:=qzx.1 hi;show 1+(1-a.which)*n.pa+i<n.ku;have:(1-a.which)*n.pa<=1*n.pa:=qYb _ oM;unfold CaN.ku;omega
theorem CaS.same_sv(n:CaN)(a:CaS):CaS.Same n a (a.dev (a.svR n)):=CaS.Same.onD (a.svR_kp n)
theorem CaS.same_ckpt(n:CaN)(a:CaS):CaS.Same n a (a.ckpt n).1:=by
 have h1:=a.same_fb n;have h2:=h1.trans (a.fb.same_fd n);have h3:=h2.trans (a.fb.fd.same_sv n);unfold CaS.ckpt;split
 .exact h1
 split
 .exact h2
 split
 .exact h3
 .exact {h3 with}
def CaS.NoP(a:CaS):Prop:=a.dP=[]/\a.bP=[]
theorem CaS.NoP.ckpt(h:a.NoP):(a.ckpt n).2=0:=by
 have e1:(flushR a.bF a.bO a.bP).cd=0:=by rw[h.2];rfl
 have e2:(flushR a.fb.dF a.fb.dO a.fb.dP).cd=0:=by show(flushR a.dF a.dO a.dP).cd=0;rw[h.1];rfl
 have e3:(a.fb.fd.svR n).cd=0:=by
  have hP:a.fb.fd.dP=[]:=by show(flushR a.dF a.dO a.dP).P=[];rw[h.1];rfl
  unfold CaS.svR;rw[hP];exact TJ _ _ _
 unfold CaS.ckpt;rw[if_neg (fun x=>x e1),if_neg (fun x=>x e2),if_neg (fun x=>x e3)]
theorem CaS.same_roomed(n:CaN)(a:CaS):CaS.Same n a (a.j8 n).1:=by
 unfold CaS.j8;split
 .exact CaS.Same.refl n a
 .exact a.same_ckpt n
end
section
variable{n:CaN}{a b:CaS}{v:Nat->Bk}{N:Nat}
def CaS.kx(n:CaN)(a:CaS)(k:Int):CaS×Int:=
 if getC a.ps k≠0 then(a,getC a.ps k)
 else if(a.j8 n).2≠0 then((a.j8 n).1,(a.j8 n).2)
 else({(a.j8 n).1.noted n 0 k (getV a.ps k).1 false ((a.sums k).getD 0)with ps:=cleanL a.ps k},0)
theorem CaS.Fit.noted(h:a.Fit N)(h1:1<=a.next)(op block slot:Int)(d:Bool)(sum:Int)(ps:List (Int×Bool)):CaS.Fit {a.noted n op block slot d sum with ps:=ps} (N+1):=
 {h.mono (qXw N)with
  nx:=by have:=h.nx;show a.next+1<=N+1;omega
  w1:=fun q hq=>by
   rcases qzq.1 hq with hq|hq
   .exact h.w1 q hq
   .simp at hq;subst hq;exact h1}
theorem CaS.Fit.kx(h:a.Fit N)(h1:1<=a.next)(k:Int):(a.kx n k).1.Fit (N+n.pa+1):=by
 have hr:=h.j8 (n:=n);have hn:=(a.j9 n).1;unfold CaS.kx;split
 .exact h.mono oM
 split
 .exact hr.mono oM
 .exact hr.noted oM _ _ _ _ _ _
theorem CaS.Tie.kx{o:Option Nat}(h:a.Tie n o)(k:Int):(a.kx n k).1.Tie n o:=by
 have hr:=CaS.Tie.j8 h;have hn:=(a.j9 n).2;unfold CaS.kx;split
 .exact h
 split
 .exact hr
 .have:=TieL.clean hr k;rw[hn]at this;exact this
end
section
variable{own:Nat->Nat}{w w':World}{c:Nat}{n:CaN}{p:CaP}{a:CaS}{N:Nat}
theorem Ey(h:CaAt own w c n p a)(hf:a.Fit N)(hN:N<=50000)(ht:a.Tie n none)(k:Int):
  Calls prog 168 #[ptr c,.int .i64 k] w (zv own w c n p (a.kx n k).1 (.int .i64 (a.kx n k).2)):=by
 have HG:=qqh (ri h k);obtain⟨-,-,-,-,d4,-,-,-,-⟩:=h.cells;obtain⟨R,hR⟩:=qqe (a.kx n k);rw[<-hR];unfold CaS.kx at hR;have H:=Y4 h hf hN ht;clear h hf hN ht;obtain⟨pv,hpv⟩:=qqe (getV a.ps k);rw[<-hpv]at HG hR;obtain⟨cd,hcd⟩:=qqe (getC a.ps k);rw[<-hcd]at HG hR;obtain⟨s,d⟩:=pv;replace hR:=qqh hR;replace hpv:=qqh hpv;replace hcd:=qqh hcd;go_enter func168,ntmps168
 go_wp2_with fail
 refine HG.o.mono ?_;rintro e w1 ⟨rfl,own1,h1,hd1⟩;obtain⟨w2,hw2⟩:=qqe (w1.alloc (.cells #[.int .i64 s,.bool d] 95));have hu2:=qqu hw2;have hg2:=qqg hw2;obtain⟨m,hm⟩:=qqe (w1.heap.size);have hm0:own1 m=0:=h1.far _ oM;rw[<-hm]at hg2;have h2:=h1.new hu2;have d2:=hd1.trans (h1.ki hu2);have H2:=Y4 h2 d2 hg2 hm0;have HM:=Y2 hm hw2;clear h1 hd1 hu2 hg2 hm0 h2 d2 HG d4 hm hw2;by_cases hc:cd=0
 rotate_left
 .have q0:(cd==0)=false:=by simpa using hc
  go_wp2
  rw[<-HM.o.2];go_ret
  have hr:=hR.out;rw[if_pos hc]at hr;rw[hr];exact⟨rfl,own1,H2.o.1,H2.o.2.1⟩
 subst hc;have hr:=hR.out;rw[if_neg (fun e=>e rfl)]at hr;replace hR:=qqh hr;clear hr;have HC:=qqh (vA H2.o.1 H.o.2.1 H.o.2.2.1);have hrs:=a.j9 n;have hsm:=(a.same_roomed n).sums;have hrr:(a.j8 n).2=0->(a.j8 n).1.next+1<=(a.j8 n).1.cov+n.jo:=fun e=>CaS.kC e H.o.1.nx1 H.o.1.ok.j1;generalize a.j8 n=r at*;obtain⟨b,cr⟩:=r;simp only at hrs hsm hrr;have HX:=Y3 hrs hsm hrr;clear hrs hsm hrr;replace HC:Hid (Calls prog 164 #[ptr c] w2 (zv own1 w2 c n p b (.int .i64 cr))):=HC;go_wp2_with fail
 rw[<-HM.o.2,<-HM.o.1];refine HC.o.mono ?_;rintro e w3 ⟨rfl,own3,h3,d3⟩;by_cases hc:cr=0
 rotate_left
 .have q0:(cr==0)=false:=by simpa using hc
  have H3:=Y2 h3 (H2.o.2.1.trans d3);have hr:=hR.out;replace hr:R=if cr≠0 then(b,cr)else _:=hr
  rw[if_pos hc]at hr;clear h3 d3 HC HX;go_wp2
  go_ret
  rw[hr];exact⟨rfl,own3,H3.o.1,H3.o.2⟩
 subst hc;have hr:=hR.out;replace hr:R=if(0:Int)≠0 then(b,0)else({b.noted n 0 k s false (((a.sums k).getD 0:Nat):Int)with ps:=cleanL a.ps k},0):=hr
 rw[if_neg (fun e=>e rfl)]at hr;obtain⟨⟨hnx,hps⟩,hsm,hroom⟩:=HX.o;replace hroom:=hroom rfl;obtain⟨q,hq,rfl,hqn⟩:=zX.1 (show getC a.ps k=0 from hcd.out.symm);have hqb:q<n.bl:=by rw[<-H.o.1.pl];exact hq
 obtain⟨sn,hsn,hse,-⟩:=TieL.slot H.o.2.2.2 hqb hqn;have hss:s=(sn:Int):=by
  have:=congrArg Prod.fst hpv.out;rw[xq hq hqn,hse]at this;exact this
 subst hss;obtain⟨sum,hsum⟩:=qqe ((a.sums (q:Int)).getD 0);rw[<-hsum]at hr;have hsl:sum<=4294967295:=by
  rw[hsum];cases hv:a.sums (q:Int)with
  |none=>simp
  |some v=>simpa using H.o.2.1.sm _ _ hv
 have hb2:=h3.ok.b2;have hs2:=h3.ok.s2;have hmay:mayR (jaddX b.next n.jo 0 (q:Int) (sn:Int) false (sum:Int))=true:=by
  have h0:=h3.nx1;have h1:=H.o.2.1.nx;have h2:=H.o.2.2.1;have h4:=h3.ok.j1;exact vh (s:=sn) false h0 oM oM ⟨oM,oM⟩ oM hsl
 obtain⟨-,-,-,d3c,-,-,-,-,d8⟩:=h3.cells;have hq1: -9223372036854775808<=(q:Int):=oM;have hq2:(q:Int)<9223372036854775808:=oM;have hg3:=(d3.upd.block _ (zf H2.o.2.2.1) (fun hs=>hs.1 H2.o.2.2.2)).trans H2.o.2.2.1;have hud3:=(uur (fun _=>False) w3).drew;have hL:∀X,Upd (fun _=>False) w3 X->(Instr.lookup 116 (.map (some p.sm)) (.int .i64 (q:Int)) false).run prog X=.ok (.int .i64 (sum:Int)) X:=fun X hX=>by
  rw[hsum,<-hsm];exact(h3.new hX).sm.1.look1 hq1 hq2
 obtain⟨w4,hw4⟩:=qqe ((w3.alloc (.cells (recC 0 0 0 0 0 false 0).toArray 101)).drew);have hu4:Upd (fun _=>False) w3 w4:=by rw[hw4];exact((uur _ w3).alloc _).drew
 obtain⟨g,hg⟩:=qqe (w3.heap.size);have hg4:w4.heap[g]?=some (.cells (recC 0 0 0 0 0 false 0).toArray 101 (0,0)):=by rw[hw4,hg];exact zc w3 _ rfl
 have hg0:own3 g=0:=h3.far _ oM;have h4:=h3.new hu4;have d4:=d3.trans (h3.ki hu4);have hth:w4.there g 0 7:=fun j hj=>by
  rw[za hg4,zg hg4,qYe];exact⟨by rw[qxe ow];rfl,rfl⟩
 obtain⟨w5,hw5⟩:=qqe (w4.setCells g 0 (recC 0 0 0 (q:Int) (sn:Int) false (sum:Int)));have hus:=zq w4 g 0 (recC 0 0 0 (q:Int) (sn:Int) false (sum:Int));rw[<-hw5]at hus;have hrow:CaAt own3 w5 c n p b/\Did own1 own3 w2 w5:=by
  rw[hw5];have hn1:=h3.nib.lt;have hn2:=h3.tur.lt;refine⟨h4.kv (zq _ _ _ _) (fun j e=>by subst e;exact⟨hg0,oM,oM⟩),⟨d4.upd.new (zq _ _ _ _) (fun i hi e=>?_),d4.old,d4.new,fun j hj=>d4.far j (by have:=(zq w4 g 0 (recC 0 0 0 (q:Int) (sn:Int) false (sum:Int))).size;omega)⟩⟩;have:=d3.upd.size;omega
 have r5:w5.rangeAt g 0 (recC 0 0 0 (q:Int) (sn:Int) false (sum:Int)):=by rw[hw5];exact qYr _ _ _ _ hth
 have hut:=underlying101;have hsi:=infoThR;have hgc:¬g=c:=fun e=>by have:=h3.clt;omega
 have hgm:¬g=m:=fun e=>by have:=zf hg3;omega
 have c1:=za (hud3.j6 hg3) 0;have c2:=za (hu4.j6 hg3) 0;simp at c1 c2;have H4:=Y8 hrow r5 hroom hmay hr hnx hps hg0;have HS1:Hid (w3.drew.cell? ⟨m,0,none⟩=some (.int .i64 (sn:Int))/\w3.drew.cell? ⟨c,22,none⟩=some (.map (some p.sm))/\(Instr.lookup 116 (.map (some p.sm)) (.int .i64 (q:Int)) false).run prog w3.drew=.ok (.int .i64 (sum:Int)) w3.drew):=⟨c1,(h3.new hud3).cells.2.2.2.2.2.2.2.2,hL _ hud3⟩
 have HS2:Hid (w4.cell? ⟨m,0,none⟩=some (.int .i64 (sn:Int))/\w4.cell? ⟨c,22,none⟩=some (.map (some p.sm))/\(Instr.lookup 116 (.map (some p.sm)) (.int .i64 (q:Int)) false).run prog w4=.ok (.int .i64 (sum:Int)) w4):=⟨c2,h4.cells.2.2.2.2.2.2.2.2,hL _ hu4⟩
 have HS3:Hid (w5.cell? ⟨m,0,none⟩=some (.int .i64 (sn:Int))/\w5.cell? ⟨c,22,none⟩=some (.map (some p.sm))/\(Instr.lookup 116 (.map (some p.sm)) (.int .i64 (q:Int)) false).run prog w5=.ok (.int .i64 (sum:Int)) w5):=⟨hus.j4 c2 (fun e=>hgm e.symm),hrow.1.cells.2.2.2.2.2.2.2.2,by rw[hsum,<-hsm];exact hrow.1.sm.1.look1 hq1 hq2⟩
 have HW:=Y3 hw4 hw5 hg;have HT:=qqh hth;clear h3 d3 hg3 hu4 hg4 hg0 h4 d4 hth hus hrow r5 hroom hmay hr hnx hps hsm hw4 hw5 hgc hgm hud3 hL hsum hsl hb2 hs2 hq1 hq2 c1 c2 d3c d8 hq hqn hqb hsn hse HC HX;go_upto_region 9 with fail
 go_cut [8] (fun s8 wx=>s8=.pointer (some ⟨g,0,none⟩)/\wx=w5)
 case first=>
  refine qZj (S:=fun W=>W.cell? ⟨m,0,none⟩=some (.int .i64 (sn:Int))/\W.cell? ⟨c,22,none⟩=some (.map (some p.sm))/\(Instr.lookup 116 (.map (some p.sm)) (.int .i64 (q:Int)) false).run prog W=.ok (.int .i64 (sum:Int)) W) kR (HS1.o) (fun hHeld=>?_);refine Wl.i [0,1,2,3,4,5,6,7,8] ?_;iterate 9 refine Wl.t hHeld ?_
  refine Wl.o ?_;refine qZe (rs:=[9,10]) kR oe ?_;refine qxb rfl (fun K hK=>?_) (qxb rfl (fun K hK=>?_) qxc)
  .go_simp
   refine hK.o _ _ (HS1.o) (fun _=>?_);clear hK K;refine Wl.r 10 (fun K hK=>?_);go_simp
   rw[<-HW.o.2.2,show(w3.alloc (.cells #[.int .i64 0,.int .i64 0,.int .i64 0,.int .i64 0,.int .i64 0,.bool false,.int .i64 0] 101)).drew=w4 from HW.o.1.symm];refine hK.o _ _ (HS2.o) (fun _=>?_);clear hK K
   try rw[<-HW.o.2.2]
   refine Wl.r 11 (fun K hK=>?_);rw[if_pos oD];refine qZk _ _ _ rfl _ _ (recC 0 0 0 (q:Int) (sn:Int) false (sum:Int)).toArray rfl rfl HT.o hsi (qYu oN) ?_;simp only[Act.put,qXi];rw[<-HW.o.2.1];refine hK.o _ _ (HS3.o) (fun _=>?_);clear hK K;refine Wl.d ?_;go_wp2_with fail
   go_meet
   case rel=>exact⟨rfl,rfl⟩
  .go_simp
   rw[<-HW.o.2.2,show(w3.alloc (.cells #[.int .i64 0,.int .i64 0,.int .i64 0,.int .i64 0,.int .i64 0,.bool false,.int .i64 0] 101)).drew=w4 from HW.o.1.symm];refine hK.o _ _ (HS2.o) (fun _=>?_);clear hK K;refine Wl.r 9 (fun K hK=>?_);go_simp
   refine hK.o _ _ (HS2.o) (fun _=>?_);clear hK K
   try rw[<-HW.o.2.2]
   refine Wl.r 11 (fun K hK=>?_);rw[if_pos oD];refine qZk _ _ _ rfl _ _ (recC 0 0 0 (q:Int) (sn:Int) false (sum:Int)).toArray rfl rfl HT.o hsi (qYu oN) ?_;simp only[Act.put,qXi];rw[<-HW.o.2.1];refine hK.o _ _ (HS3.o) (fun _=>?_);clear hK K;refine Wl.d ?_;go_wp2_with fail
   go_meet
   case rel=>exact⟨rfl,rfl⟩
 case rest=>
  obtain⟨rfl,rfl⟩:=hcut;obtain⟨⟨h5,d5⟩,r5,hroom,hmay,hr,hnx,hps,hg0⟩:=H4.o;have hud:=(uur (fun _=>False) wc).drew;have hbn:b.next<=50000:=by have h1:=H.o.2.1.nx;have h2:=H.o.2.2.1;omega
  have HJ:=qqh (ZT (h5.new hud) oM oM 0 0 0 (q:Int) (sn:Int) false (sum:Int) hmay);obtain⟨-,-,-,d3c,-,-,-,-,-⟩:=h5.cells;have D5:=qqh (H2.o.2.1.trans (d5.trans (h5.ki hud)));clear h5 d5 hud HS1 HS2 HS3 HT HW;go_upto_region 10 with fail
  refine qZj (S:=fun W=>W.cell? ⟨c,17,none⟩=some (ptr p.jr)/\W.rangeAt g 0 (recC 0 0 0 (q:Int) (sn:Int) false (sum:Int))) kR (by(simp only[qYo,qYq]);exact⟨d3c,r5⟩) (fun hHeld=>?_);refine Wl.i [0,1,2,3] ?_;iterate 4 refine Wl.t hHeld ?_
  refine Wl.o ?_;refine Wl.l 4 (fun w h=>h.2) hut hsi hHeld ?_;refine Wl.r 5 (fun K hK=>?_);go_simp
  refine HJ.o.mono ?_;rintro e w6 ⟨rfl,own6,h6,d6⟩;obtain⟨-,-,-,i3,i4,-,-,-,-⟩:=h6.cells;have r6:=d6.upd.range (show wc.drew.rangeAt g 0 (recC 0 0 0 (q:Int) (sn:Int) false (sum:Int)) by rw[qYq];exact r5) (fun h=>h.1 hg0);have HP:=qqh (Rt h6 (q:Int));have H6:=qqh (D5.out.trans d6);clear h6 d6 r5 d3c HJ;refine hK.o _ _ (⟨i3,r6⟩) (fun hH1=>?_);clear hK K;refine Wl.i [6,7,8] ?_;iterate 3 refine Wl.t hH1 ?_
  refine Wl.o ?_;refine Wl.r 9 (fun K hK=>?_);go_simp
  refine hK.o _ _ (hH1) (fun hH2=>?_);clear hK K;refine Wl.r 10 (fun K hK=>?_);go_simp
  refine hK.o _ _ (hH2) (fun hH3=>?_);clear hK K;refine Wl.d ?_;have hc1:getC a.ps (q:Int)=0:=hcd.out.symm;have HR:=qqh hr;replace HP:Hid (Calls prog 241 #[ptr p.ix,.int .i64 (q:Int)] w6 (zv own6 w6 c n p {b.noted n 0 (q:Int) (sn:Int) false (sum:Int)with ps:=cleanL b.ps (q:Int)} (.int .i64 (getC b.ps (q:Int))))):=HP;rw[hps,hc1]at HP;clear hHeld hH1 hH2 hH3 hr hps hc1 hut hsi hroom hmay hnx r6 i3 hg0;go_wp2_with fail
  refine HP.o.mono ?_;rintro e w7 ⟨rfl,own7,h7,d7⟩;go_wp2
  go_ret
  rw[HR.o];exact⟨rfl,own7,h7,H6.o.trans d7⟩
end
end Go.Proofs.YtfhfbpmlnjdfoaaGreatDoor
