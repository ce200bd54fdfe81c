/- A cache: Read. -/
import Derived.Test.YtfhfbpmlnjdfoaaGreatDoorG31
set_option maxRecDepth 100000
set_option maxHeartbeats 2000000
namespace Go.Proofs.YtfhfbpmlnjdfoaaGreatDoor
open Go Go.RowKit Tryz
def CaS.readS(n:CaN)(a:CaS)(k:Int)(s:Nat):CaS×Bk×Int:=
 if fate a.dP=1 then({a with dP:=a.dP.tail},zB,19)
 else if crcC (curB a.dF a.dO (n.jq+s))=(a.sums k).getD 0 then({a with dP:=a.dP.tail},curB a.dF a.dO (n.jq+s),0)else({a with dP:=a.dP.tail},zB,13)
def CaS.jn(n:CaN)(a:CaS)(k:Int):CaS×Bk×Int:=
 if getC a.ps k=14 then({a with bP:=a.bP.tail},(if fate a.bP=1 then zB else curB a.bF a.bO k.toNat),(if fate a.bP=1 then 19 else 0))
 else if getC a.ps k≠0 then(a,zB,getC a.ps k)else a.readS n k (getV a.ps k).1.toNat
section
variable{own own2:Nat->Nat}{w w' W2:World}{c m:Nat}{n:CaN}{p:CaP}{a:CaS}{N:Nat}
theorem xL(h:CaAt own2 W2 c n p a)(d:Did own own2 w W2)(hm0:own2 m=0)(hm:w.heap.size<=m)(h1:m≠0)(h2:m≠1)(cs:List Value):CaAt own2 (W2.setCells m 0 cs) c n p a/\Did own own2 w (W2.setCells m 0 cs):=
 ⟨h.jt (zq W2 m 0 cs) (fun j e=>by subst e;exact⟨hm0,h1,h2⟩),⟨d.upd.new (zq W2 m 0 cs) (fun i hi e=>by omega),d.old,d.new,fun j hj=>d.far j (by have:=(zq W2 m 0 cs).size;omega)⟩⟩
theorem yY{W:World}{g:Nat}{cs:List Value}{t:TypeId}(hg:W.heap[g]?=some (.cells cs.toArray t (0,0)))(hc:cs.length=64):W.there g 0 64:=fun j hj=>by
 rw[za hg,zg hg];exact⟨by rw[qYe,qxe (by simp[hc];omega)];rfl,rfl⟩
theorem Ya(h:CaAt own w c n p a)(k:Int):
  Calls prog 45 #[ptr c,.int .i64 k] w (ZL own w c n p (a.jn n k).1 (a.jn n k).2.1 (a.jn n k).2.2):=by
 obtain⟨R,hR⟩:=qqe (a.jn n k);rw[<-hR];unfold CaS.jn at hR;obtain⟨w1,hw1⟩:=qqe (w.alloc (.cells (bkC zB).toArray 54));have hu1:=qqu hw1;have hg1:=qqg hw1;obtain⟨m,hm⟩:=qqe (w.heap.size);have hm0:own m=0:=h.far _ (by omega);rw[<-hm]at hg1;have h1:=h.new hu1;have d1:=h.ji hu1;have hcl:=h.clt;have HL:=Y3 h.nib.lt h.tur.lt hm;have HG:=qqh (qW h1 k);obtain⟨-,-,-,-,d4,-,-,-,-⟩:=h.cells;have H:=Y4 d1 hg1 hm0 hR;have HW1:=qqh hw1;clear h1 h hu1 hg1 hm0 d1 hm hw1 hR;obtain⟨Z,hZ⟩:=qqe (zB);have hZl:Z.length=64:=by rw[hZ];rfl
 have HZ:=Y2 hZ (xZ Z hZ);clear hZ;go_enter func45,ntmps45
 go_wp2_with fail
 rw[EX,<-HW1.o,<-HL.o.2.2];refine HG.o.mono ?_;rintro e w2 ⟨rfl,own2,h2,hd2⟩;have g2:=(hd2.upd.block m (zf H.o.2.1) (fun h=>h.1 H.o.2.2.1)).trans H.o.2.1;have hmo:own2 m=0:=(hd2.old m (zf H.o.2.1)).trans H.o.2.2.1;have d2:=H.o.1.trans hd2;have hR:=H.o.2.2.2;have hm1:m≠0:=fun e=>by have:=HL.o.1;have:=HL.o.2.2;omega
 have hm2:m≠1:=fun e=>by have:=HL.o.2.1;have:=HL.o.2.2;omega
 have HM:=Y3 hm1 hm2 (show w.heap.size<=m by have:=HL.o.2.2;omega);clear HG d4 hd2 H hm1 hm2;generalize hgv:getV a.ps k=pv at*;obtain⟨s,db⟩:=pv;simp only at hR;obtain⟨w3,hw3⟩:=qqe (w2.alloc (.cells #[.int .i64 s,.bool db] 95));have hu3:=qqu hw3;have h3:=h2.new hu3;have d3:=d2.trans (h2.ji hu3);have g3:=hu3.jc g2;have gp:=qqg hw3;have HW3:=qqh hw3;obtain⟨pb,hpb⟩:=qqe (w2.heap.size);have hpo:own2 pb=0:=h2.far _ (by omega);rw[<-hpb]at gp;have hpm:pb≠m:=by have:=zf g2;omega
 have HPB:=qqh hpb;have hcl2:=h2.clt;obtain⟨b0,b1,-,-,-,-,-,-,-⟩:=h2.cells;clear h2 d2 g2 hu3 hw3 hpb hcl;generalize hgc:getC a.ps k=cd at*;by_cases hc14:cd=14
 .subst hc14;rw[if_pos rfl]at hR;obtain⟨kn,rfl,hkn⟩:∃kn:Nat,k=(kn:Int)/\kn<a.bF.length:=by
   have h1:=h3.pl;have h2:=h3.gl;unfold getC at hgc;split at hgc
   .cases hgc
   .exact ⟨k.toNat,by omega,by omega⟩
  have HRd:=qqh (ZM h3 kn hkn);have HX:=Y4 d3 g3 hmo hR;clear h3 d3 g3 hmo hR gp hgc hgv hpo hkn hpm;go_wp2_with fail
  rw[<-HW3.o];refine HRd.out.mono ?_;rintro e w4 ⟨y,cd,hy,hcd,hyl,rfl,own4,h4,hd4⟩;obtain⟨d3,g3,hmo,hR⟩:=HX.o;have g4:=(hd4.upd.block m (zf g3) (fun h=>h.1 hmo)).trans g3;have hth:=yY g4 (by rw[zn];rfl);have hmo4:own4 m=0:=(hd4.old m (zf g3)).trans hmo;obtain⟨h5,d5⟩:=xL h4 (d3.trans hd4) hmo4 HM.o.2.2 HM.o.1 HM.o.2.1 (bkC y);have H5:=Y6 h5 d5 hR hy hcd hyl;clear h4 hd4 d3 g3 hmo hR g4 hmo4 h5 d5 HRd HX hy hcd;go_wp2_with (first
   |(refine qZi rfl _ _ _ rfl _ _ (bkC y).toArray rfl rfl (by rw[zo _ hyl];exact hth) (by rw[zo _ hyl];exact zM) (qYu (zv _)) ?_)
   |fail)
  obtain⟨h5,d5,hR,hy,hcd,-⟩:=H5.o;refine qYw (zp rfl _ _ m 0 (bkC y) _ rfl (qYr _ _ _ _ (by rw[zn,hyl];exact hth)) underlying54 rfl (zw y hyl)) rfl ?_;rw[hR];exact⟨y,cd,by rw[hy];rfl,hcd,hyl,rfl,own4,h5,d5⟩
 by_cases hc:cd=0
 rotate_left
 .rw [if_neg hc14,if_pos hc]at hR;have q0:(cd==14)=false:=by simpa using hc14
  have q1:(cd==0)=false:=by simpa using hc
  have hth:=yY g3 (by rw[zn];rfl);obtain⟨h5,d5⟩:=xL h3 d3 hmo HM.o.2.2 HM.o.1 HM.o.2.1 (bkC Z);have H5:=Y3 h5 d5 hR;clear h3 d3 g3 hmo hR gp hgc hgv hpo h5 d5;rw[HW3.o]at hth;go_wp2_with (first
   |(refine yg rfl rfl HZ.o.2 ?_)
   |(refine qZi rfl _ _ _ rfl _ _ (bkC Z).toArray rfl rfl (by rw[zo _ hZl];exact hth) (by rw[zo _ hZl];exact zM) (qYu (zv _)) ?_)
   |fail)
  obtain⟨h5,d5,hR⟩:=H5.o;rw[<-HW3.o]at hth⊢;refine qYw (zp rfl _ _ m 0 (bkC Z) _ rfl (qYr _ _ _ _ (by rw[zn,hZl];exact hth)) underlying54 rfl (zw Z hZl)) rfl ?_;rw[hR];exact⟨Z,cd,HZ.o.1,rfl,hZl,rfl,own2,h5,d5⟩
 subst hc;rw[if_neg (by decide),if_neg (by decide)]at hR;unfold CaS.readS at hR;obtain⟨vi,mi,hix,-,-⟩:=h3.ix;obtain⟨kn,hkn,hkk,hs0,hs1,hgv2⟩:=uX hix.good hgc;rw[hgv]at hgv2;have hs0':0<=s:=by have e:=congrArg Prod.fst hgv2;simp only at e;rw[e];exact hs0
 have hs1':s<(n.sl:Int):=by have e:=congrArg Prod.fst hgv2;simp only at e;rw[e];exact hs1
 clear hix hs0 hs1 hgv2 hgv hgc hc14;obtain⟨sn,rfl⟩:∃sn:Nat,s=(sn:Int):=⟨s.toNat,by omega⟩
 rw[qxu]at hR;have hk4:k<4096:=by have h1:=h3.pl;have h2:=h3.ok.b2;rw[hkk];omega
 have hk0:0<=k:=by rw[hkk];omega
 clear hkn hkk;have hfl:=h3.fl;have hz:=h3.ok.z;have hsz:n.jq+sn<a.dF.length:=by unfold CaN.size at hfl;unfold CaN.jq;omega
 have hsz2:n.jq+sn<8192:=by omega
 obtain⟨sc,hsc⟩:=qqe (n.jq+sn);have k1:IntKind.i64.wrap ((n.jq:Int)+(sn:Int))=(sc:Int):=by rw[hsc,qxt];exact qxv _ (by omega)
 have K2:Hid ((n.jq:Int)+(sn:Int)=(sc:Int)):=by show _=_;rw[hsc,qxt]
 rw[<-hsc]at hR hsz;obtain⟨e0,-,-,-,-,-,-,-,-⟩:=h3.cells;obtain⟨-,-,-,e5⟩:=h3.lay;have e5:w3.cell? ⟨c,12,none⟩=some (.int .i64 (n.jq:Int)):=by rw[e5];congr 2
 have ep:=za gp 0;simp at ep;have hpl:=zf gp;have hml:=zf g3;have hud:=((uur (fun _=>False) w3).drew)
 obtain⟨wd,hwd⟩:=qqe (w3.drew);rw[<-hwd]at hud;have hd:=h3.new hud;have dd:=d3.trans (h3.ji hud);have gd:=hud.jc g3;have epd:=hud.ja ep (fun h=>h);have e0d:=hud.ja e0 (fun h=>h);have e5d:=hud.ja e5 (fun h=>h);have hcd:=hd.clt;have hmn:own2 m=0/\own2 pb=0:=⟨hmo,hpo⟩
 have HD:=Y10 hd dd gd hmn hR hsz hpm hk0 hk4 hwd;have hpd:pb<wd.heap.size:=by have:=hud.size;omega
 have hmd:m<wd.heap.size:=by have:=hud.size;omega
 clear h3 d3 g3 hmo hpo gp hR hfl hz hsz hsz2 hsc hpl hml hud hd dd gd hmn hpm hk0 hk4 e0 e5 ep hwd;go_upto_region 8 with fail
 rw[<-HW3.o,<-HPB.o];refine qZj (S:=fun W=>W.cell? ⟨c,14,none⟩=some (ptr p.ssd)/\W.cell? ⟨c,12,none⟩=some (.int .i64 (n.jq:Int))/\W.cell? ⟨pb,0,none⟩=some (.int .i64 (sn:Int))) (by kernel_rfl) (by rw[<-HD.o.2.2.2.2.2.2.2.2.2];exact⟨e0d,e5d,epd⟩) (fun hHeld=>?_);rw[<-HD.o.2.2.2.2.2.2.2.2.2]at hHeld⊢;refine Wl.i [0,1,2,3,4,5,6,7,8,9,10,11] ?_;iterate 12 refine Wl.t hHeld ?_
 refine Wl.o ?_;refine qZe (rs:=[12,16]) (by kernel_rfl) (by simp) ?_;refine qxb rfl (fun K hK=>?_) (qxb rfl (fun K hK=>?_) qxc)
 .go_simp
  obtain⟨hd,dd,gd,hmn,hR,hsz,hpm,hk0,hk4,-⟩:=HD.o;refine(tI hd sc hsz).mono ?_;rintro e w4 ⟨y,cd,hy,hcd,hyl,rfl,own4,h4,hd4⟩;have HY:=Y2 hy hcd;clear hy hcd;have g4:=(hd4.upd.block m hmd (fun h=>h.1 hmn.1)).trans gd;have d4:=dd.trans hd4;have hmo4:own4 m=0:=(hd4.old m hmd).trans hmn.1;obtain⟨i0,-,-,-,-,-,-,-,-⟩:=h4.cells;obtain⟨-,-,-,i5⟩:=h4.lay;have i5:w4.cell? ⟨c,12,none⟩=some (.int .i64 (n.jq:Int)):=by rw[i5];congr 2
  have ip:=hd4.upd.ja epd (fun h=>h.1 hmn.2);obtain⟨w5,hw5⟩:=qqe (w4.alloc (.cells (bkC Z).toArray 54));have hu5:=qqu hw5;obtain⟨g,hg⟩:=qqe (w4.heap.size);have gg5:w5.heap[g]?=some (.cells (bkC Z).toArray 54 (0,0)):=by rw[hw5,hg];exact zc w4 _ rfl
  have h5:=h4.new hu5;have d5:=d4.trans (h4.ji hu5);have g5:=hu5.jc g4;have hgo:own4 g=0:=h4.far g (by omega);have hgm:w.heap.size<=g:=by have:=d4.upd.size;omega
  have hgp:g≠pb:=by have:=hd4.upd.size;omega
  have hgm2:g≠m:=by have:=hd4.upd.size;omega
  have hgc:g≠c:=by have:=h4.clt;omega
  have hgn:g≠0/\g≠1:=by have h1:=h4.nib.lt;have h2:=h4.tur.lt;constructor<;>omega
  have j0:=hu5.ja i0 (fun h=>h);have j5:=hu5.ja i5 (fun h=>h);have jp:=hu5.ja ip (fun h=>h);have HW:=Y2 hw5 hg;clear hw5 hg hu5 h4 d4 hd4 g4 hmn gd dd hd;refine hK.o _ _ (⟨i0,i5,ip⟩) (fun hH1=>?_);clear hK K;refine Wl.i [13,14,15] ?_;iterate 3 refine Wl.t hH1 ?_
  refine Wl.o ?_;refine Wl.r 16 (fun K hK=>?_);refine qy rfl _ rfl _ (vN Z HZ.o.1) ?_;rw[<-HW.o.1,<-HW.o.2];simp only[Act.put,qXi];refine hK.o _ _ (⟨j0,j5,jp⟩) (fun hH2=>?_);clear hK K;refine Wl.r 17 (fun K hK=>?_);rw[if_pos (by rfl)];have hthg:=yY gg5 (by rw[zn];exact hZl);obtain⟨h6,d6⟩:=xL h5 d5 hgo hgm hgn.1 hgn.2 (bkC y);have r6:(w5.setCells g 0 (bkC y)).rangeAt g 0 (bkC y):=qYr _ _ _ _ (by rw[zn,hyl];exact hthg);have hus:=zq w5 g 0 (bkC y);have g6:=(hus.block m (zf g5) (fun e=>hgm2 e.symm)).trans g5;have l0:=hus.ja j0 (fun e=>hgc e.symm);have l5:=hus.ja j5 (fun e=>hgc e.symm);have lp:=hus.ja jp (fun e=>hgp e.symm);refine qZk _ _ _ rfl _ _ (bkC y).toArray rfl rfl (by rw[zo _ hyl];exact hthg) (by rw[zo _ hyl];exact zM) (qYu (zv _)) ?_;simp only[Act.put];refine hK.o _ _ (⟨l0,l5,lp⟩) (fun hH3=>?_);clear hK K;refine Wl.r 18 (fun K hK=>?_);go_simp
  refine hK.o _ _ (hH3) (fun _=>?_);clear hK K;refine Wl.d ?_;obtain⟨w6,hw6⟩:=qqe (w5.setCells g 0 (bkC y));rw[<-hw6]at h6 d6 r6 g6⊢;have hgo6:own4 g=0:=hgo;have H6:=Y13 h6 d6 r6 g6 hmo4 hR HY.o.1 HY.o.2 hgo6 hgm hgm2 hk0 hk4;clear h6 d6 r6 g6 hmo4 hR HY hgo6 hgo hgm hgm2 hgp hgn hk0 hk4 h5 d5 gg5 g5 j0 j5 jp i0 i5 ip l0 l5 lp hus hthg hw6 hHeld hH1 hH2 hH3 HW hgc e0d e5d epd;by_cases hc:cd=0
  rotate_left
  .have q0:(cd==0)=false:=by simpa using hc
   obtain⟨h6,d6,-,g6,hmo4,hR,hy,hcd,-⟩:=H6.o;have hf:fate a.dP=1:=by
    refine Decidable.byContradiction fun hf=>?_;rw[if_neg hf]at hcd;exact hc hcd
   rw[if_pos hf]at hR hcd;have hth:=yY g6 (by rw[zn];rfl);obtain⟨h7,d7⟩:=xL h6 d6 hmo4 HM.o.2.2 HM.o.1 HM.o.2.1 (bkC Z);have H7:=Y4 h7 d7 hR hcd;clear h6 d6 g6 hmo4 hR hy hcd h7 d7 hf H6;go_wp2_with (first
    |(refine yg rfl rfl HZ.o.2 ?_)
    |(refine qZi rfl _ _ _ rfl _ _ (bkC Z).toArray rfl rfl (by rw[zo _ hZl];exact hth) (by rw[zo _ hZl];exact zM) (qYu (zv _)) ?_)
    |fail)
   obtain⟨h7,d7,hR,hcd⟩:=H7.o;refine qYw (zp rfl _ _ m 0 (bkC Z) _ rfl (qYr _ _ _ _ (by rw[zn,hZl];exact hth)) underlying54 rfl (zw Z hZl)) rfl ?_;rw[hR];exact⟨Z,cd,HZ.o.1,hcd,hZl,rfl,own4,h7,d7⟩
  subst hc;obtain⟨h6,d6,r6,g6,hmo4,hR,hy,hcd,hgo6,hgm,hgm2,hk0,hk4⟩:=H6.o;have hf:¬fate a.dP=1:=fun hf=>by rw[if_pos hf]at hcd;cases hcd
  rw[if_neg hf]at hR hy;rw[<-hy]at hR;have hud:=((uur (fun _=>False) w6).drew)
  obtain⟨w7,hw7⟩:=qqe (w6.drew);rw[<-hw7]at hud;obtain⟨w8,hw8⟩:=qqe (w7.alloc (.cells #[.slice (some ⟨g,0,none⟩) 64 64] 205));have hu8:=qqu hw8;have g8:=qqg hw8;have h7:=h6.new hud;have h8:=h7.new hu8;have r8:=hu8.range (hud.range r6 (fun h=>h)) (fun h=>h);obtain⟨sm,hsm⟩:=qqe ((a.sums k).getD 0);rw[<-hsm]at hR;have hMM:∀X,Upd (fun _=>False) w6 X->X.cell? ⟨c,22,none⟩=some (.map (some p.sm))/\(Instr.lookup 116 (.map (some p.sm)) (.int .i64 k) false).run prog X=.ok (.int .i64 (sm:Int)) X:=by
   intro X hX;have hCA:=h6.new hX;obtain⟨-,-,-,-,-,-,-,-,c22⟩:=hCA.cells;refine⟨c22,?_⟩;rw[hsm];exact hCA.sm.1.look1 (by omega) (by omega)
  have m7:=hMM _ hud;have m8:=hMM _ (hud.trans hu8);have HS:=qqh (uc (cl:=1) y h8.nib (za g8 0) r8 hyl (by omega) (by omega));have HM9:Hid (∀w9,Below w8.heap.size w8 w9->(CaAt own4 w9 c n p {a with dP:=a.dP.tail}/\Did own own4 w w9)/\w9.rangeAt g 0 (bkC y)/\w9.heap[m]?=some (.cells (bkC zB).toArray 54 (0,0))/\(w9.cell? ⟨c,22,none⟩=some (.map (some p.sm))/\(Instr.lookup 116 (.map (some p.sm)) (.int .i64 k) false).run prog w9=.ok (.int .i64 (sm:Int)) w9)):=by
   intro w9 hb9;have hu9:=(hud.trans hu8).trans (uuo (S:=fun _=>False) hb9);exact⟨⟨h6.new hu9,d6.trans (h6.ji hu9)⟩,hu9.range r6 (fun h=>h),hu9.jc g6,hMM _ hu9⟩
  have HX:=Y6 hR hmo4 hw7 hw8 hsm hgm2;clear h6 d6 r6 g6 hmo4 hR hy hcd hgo6 hgm hgm2 hf hud hu8 g8 h7 h8 r8 hMM hw7 hw8 hsm H6 hk0 hk4;go_upto_region 11 with fail
  refine qZj (S:=fun W=>W.cell? ⟨c,22,none⟩=some (.map (some p.sm))/\(Instr.lookup 116 (.map (some p.sm)) (.int .i64 k) false).run prog W=.ok (.int .i64 (sm:Int)) W) (by kernel_rfl) (by rw[<-HX.o.2.2.1];exact m7) (fun _=>?_);rw[<-HX.o.2.2.1];have hHeld:=m7;refine Wl.i [0,3,4,5,6,7,8] ?_;iterate 7 refine Wl.t hHeld ?_
  refine Wl.o ?_;refine Wl.r 1 (fun K hK=>?_);go_simp
  rw[<-HX.o.2.2.2.1];refine hK.o _ _ (m8) (fun hH1=>?_);clear hK K;refine Wl.r 2 (fun K hK=>?_);go_simp
  refine HS.o.mono ?_;rintro e w9 ⟨rfl,hb9⟩;obtain⟨hcd9,r9,g9,m9⟩:=HM9.o w9 hb9;have H9:=Y3 hcd9 r9 g9;refine hK.o _ _ (m9) (fun hH2=>?_);clear hK K;refine Wl.i [9] (Wl.t hH2 (Wl.o ?_));refine Wl.d ?_;clear hHeld hH1 hH2 m7 m8 m9 HS HM9 hb9 hcd9 g9;obtain⟨hR,hmo4,-,-,-,-⟩:=HX.o;have hth:=yY H9.o.2.2 (by rw[zn];rfl);by_cases hq:crcC y=sm
  rotate_left
  .rw [if_neg hq]at hR;have q1:((crcC y:Int)==(sm:Int))=false:=by simpa using fun e=>hq (by omega)
   have q2:((crcC y:Int) !=(sm:Int))=true:=by simp[bne,q1]
   obtain⟨h7,d7⟩:=xL H9.o.1.1 H9.o.1.2 hmo4 HM.o.2.2 HM.o.1 HM.o.2.1 (bkC Z);have H7:=Y3 h7 d7 hR;clear h7 d7 hR hmo4 r9 hq;go_wp2_with (first
    |(refine yg rfl rfl HZ.o.2 ?_)
    |(refine qZi rfl _ _ _ rfl _ _ (bkC Z).toArray rfl rfl (by rw[zo _ hZl];exact hth) (by rw[zo _ hZl];exact zM) (qYu (zv _)) ?_)
    |fail)
   obtain⟨h7,d7,hR⟩:=H7.o;refine qYw (zp rfl _ _ m 0 (bkC Z) _ rfl (qYr _ _ _ _ (by rw[zn,hZl];exact hth)) underlying54 rfl (zw Z hZl)) rfl ?_;rw[hR];exact⟨Z,13,HZ.o.1,rfl,hZl,rfl,own4,h7,d7⟩
  rw[if_pos hq]at hR;have q1:((crcC y:Int)==(sm:Int))=true:=by rw[hq];simp
  have q2:((crcC y:Int) !=(sm:Int))=false:=by simp[bne,q1]
  obtain⟨h7,d7⟩:=xL H9.o.1.1 H9.o.1.2 hmo4 HM.o.2.2 HM.o.1 HM.o.2.1 (bkC y);have H7:=Y3 h7 d7 hR;clear h7 d7 hR hmo4 hq;go_wp2_with (first
   |(refine qZg rfl _ _ rfl _ _ rfl _ _ r9 underlying54 rfl (zw y hyl) ?_)
   |(refine qZi rfl _ _ _ rfl _ _ (bkC y).toArray rfl rfl (by rw[zo _ hyl];exact hth) (by rw[zo _ hyl];exact zM) (qYu (zv _)) ?_)
   |fail)
  obtain⟨h7,d7,hR⟩:=H7.o;refine qYw (zp rfl _ _ m 0 (bkC y) _ rfl (qYr _ _ _ _ (by rw[zn,hyl];exact hth)) underlying54 rfl (zw y hyl)) rfl ?_;rw[hR];exact⟨y,0,rfl,rfl,hyl,rfl,own4,h7,d7⟩
 .refine qy rfl _ rfl _ (vN Z HZ.o.1) ?_;simp only[Act.put,qXi];obtain⟨hd,dd,gd,hmn,hR,hsz,hpm,hk0,hk4,-⟩:=HD.o;obtain⟨w4,hw4⟩:=qqe (wd.alloc (.cells (bkC Z).toArray 54));have hu4:=qqu hw4;obtain⟨g,hg⟩:=qqe (wd.heap.size);have gg4:w4.heap[g]?=some (.cells (bkC Z).toArray 54 (0,0)):=by rw[hw4,hg];exact zc wd _ rfl
  rw[<-hw4,<-hg];have i0:=hu4.ja e0d (fun h=>h);have i5:=hu4.ja e5d (fun h=>h);have ip:=hu4.ja epd (fun h=>h);have h4:=hd.new hu4;have d4:=dd.trans (hd.ji hu4);have g4:=hu4.jc gd;have hgo2:own2 g=0:=hd.far g (by omega);have hgm:w.heap.size<=g:=by have:=dd.upd.size;omega
  have hgp:g≠pb:=by omega
  have hgm2:g≠m:=by omega
  have hgc:g≠c:=by omega
  have hgn:g≠0/\g≠1:=by have h1:=hd.nib.lt;have h2:=hd.tur.lt;constructor<;>omega
  have HQ:=qqh (tI h4 sc hsz);have H4:=Y6 d4 g4 gg4 hgo2 hmn hR;have HW:=Y2 hw4 hg;clear hw4 hg hu4 h4 d4 g4 gg4 hgo2 hmn hR dd gd hd;refine hK.o _ _ (⟨i0,i5,ip⟩) (fun hH1=>?_);clear hK K;refine Wl.r 12 (fun K hK=>?_);go_simp
  refine HQ.o.mono ?_;rintro e w5 ⟨y,cd,hy,hcd,hyl,rfl,own4,h5,hd5⟩;have HY:=Y2 hy hcd;clear hy hcd HQ;obtain⟨d4,g4,gg4,hgo2,hmn,hR⟩:=H4.o;have g5:=(hd5.upd.block m (zf g4) (fun h=>h.1 hmn.1)).trans g4;have gg5:=(hd5.upd.block g (zf gg4) (fun h=>h.1 hgo2)).trans gg4;have d5:=d4.trans hd5;have hmo4:own4 m=0:=(hd5.old m (zf g4)).trans hmn.1;have hgo:own4 g=0:=(hd5.old g (zf gg4)).trans hgo2;obtain⟨j0,-,-,-,-,-,-,-,-⟩:=h5.cells;obtain⟨-,-,-,j5⟩:=h5.lay;have j5:w5.cell? ⟨c,12,none⟩=some (.int .i64 (n.jq:Int)):=by rw[j5];congr 2
  have jp:=hd5.upd.ja ip (fun h=>h.1 hmn.2);clear d4 g4 gg4 hgo2 hmn hd5 H4;refine hK.o _ _ (⟨j0,j5,jp⟩) (fun hH2=>?_);clear hK K;refine Wl.i [13,14,15] ?_;iterate 3 refine Wl.t hH2 ?_
  refine Wl.o ?_;refine Wl.r 17 (fun K hK=>?_);rw[if_pos (by rfl)];have hthg:=yY gg5 (by rw[zn];exact hZl);obtain⟨h6,d6⟩:=xL h5 d5 hgo hgm hgn.1 hgn.2 (bkC y);have r6:(w5.setCells g 0 (bkC y)).rangeAt g 0 (bkC y):=qYr _ _ _ _ (by rw[zn,hyl];exact hthg);have hus:=zq w5 g 0 (bkC y);have g6:=(hus.block m (zf g5) (fun e=>hgm2 e.symm)).trans g5;have l0:=hus.ja j0 (fun e=>hgc e.symm);have l5:=hus.ja j5 (fun e=>hgc e.symm);have lp:=hus.ja jp (fun e=>hgp e.symm);refine qZk _ _ _ rfl _ _ (bkC y).toArray rfl rfl (by rw[zo _ hyl];exact hthg) (by rw[zo _ hyl];exact zM) (qYu (zv _)) ?_;simp only[Act.put,qXi];refine hK.o _ _ (⟨l0,l5,lp⟩) (fun hH3=>?_);clear hK K;refine Wl.r 18 (fun K hK=>?_);go_simp
  refine hK.o _ _ (hH3) (fun _=>?_);clear hK K;refine Wl.d ?_;obtain⟨w6,hw6⟩:=qqe (w5.setCells g 0 (bkC y));rw[<-hw6]at h6 d6 r6 g6⊢;have hgo6:own4 g=0:=hgo;have H6:=Y13 h6 d6 r6 g6 hmo4 hR HY.o.1 HY.o.2 hgo6 hgm hgm2 hk0 hk4;clear h6 d6 r6 g6 hmo4 hR HY hgo6 hgo hgm hgm2 hgp hgn hk0 hk4 h5 d5 gg5 g5 j0 j5 jp i0 i5 ip l0 l5 lp hus hthg hw6 hHeld hH1 hH2 hH3 HW hgc e0d e5d epd;by_cases hc:cd=0
  rotate_left
  .have q0:(cd==0)=false:=by simpa using hc
   obtain⟨h6,d6,-,g6,hmo4,hR,hy,hcd,-⟩:=H6.o;have hf:fate a.dP=1:=by
    refine Decidable.byContradiction fun hf=>?_;rw[if_neg hf]at hcd;exact hc hcd
   rw[if_pos hf]at hR hcd;have hth:=yY g6 (by rw[zn];rfl);obtain⟨h7,d7⟩:=xL h6 d6 hmo4 HM.o.2.2 HM.o.1 HM.o.2.1 (bkC Z);have H7:=Y4 h7 d7 hR hcd;clear h6 d6 g6 hmo4 hR hy hcd h7 d7 hf H6;go_wp2_with (first
    |(refine yg rfl rfl HZ.o.2 ?_)
    |(refine qZi rfl _ _ _ rfl _ _ (bkC Z).toArray rfl rfl (by rw[zo _ hZl];exact hth) (by rw[zo _ hZl];exact zM) (qYu (zv _)) ?_)
    |fail)
   obtain⟨h7,d7,hR,hcd⟩:=H7.o;refine qYw (zp rfl _ _ m 0 (bkC Z) _ rfl (qYr _ _ _ _ (by rw[zn,hZl];exact hth)) underlying54 rfl (zw Z hZl)) rfl ?_;rw[hR];exact⟨Z,cd,HZ.o.1,hcd,hZl,rfl,own4,h7,d7⟩
  subst hc;obtain⟨h6,d6,r6,g6,hmo4,hR,hy,hcd,hgo6,hgm,hgm2,hk0,hk4⟩:=H6.o;have hf:¬fate a.dP=1:=fun hf=>by rw[if_pos hf]at hcd;cases hcd
  rw[if_neg hf]at hR hy;rw[<-hy]at hR;have hud:=((uur (fun _=>False) w6).drew)
  obtain⟨w7,hw7⟩:=qqe (w6.drew);rw[<-hw7]at hud;obtain⟨w8,hw8⟩:=qqe (w7.alloc (.cells #[.slice (some ⟨g,0,none⟩) 64 64] 205));have hu8:=qqu hw8;have g8:=qqg hw8;have h7:=h6.new hud;have h8:=h7.new hu8;have r8:=hu8.range (hud.range r6 (fun h=>h)) (fun h=>h);obtain⟨sm,hsm⟩:=qqe ((a.sums k).getD 0);rw[<-hsm]at hR;have hMM:∀X,Upd (fun _=>False) w6 X->X.cell? ⟨c,22,none⟩=some (.map (some p.sm))/\(Instr.lookup 116 (.map (some p.sm)) (.int .i64 k) false).run prog X=.ok (.int .i64 (sm:Int)) X:=by
   intro X hX;have hCA:=h6.new hX;obtain⟨-,-,-,-,-,-,-,-,c22⟩:=hCA.cells;refine⟨c22,?_⟩;rw[hsm];exact hCA.sm.1.look1 (by omega) (by omega)
  have m7:=hMM _ hud;have m8:=hMM _ (hud.trans hu8);have HS:=qqh (uc (cl:=1) y h8.nib (za g8 0) r8 hyl (by omega) (by omega));have HM9:Hid (∀w9,Below w8.heap.size w8 w9->(CaAt own4 w9 c n p {a with dP:=a.dP.tail}/\Did own own4 w w9)/\w9.rangeAt g 0 (bkC y)/\w9.heap[m]?=some (.cells (bkC zB).toArray 54 (0,0))/\(w9.cell? ⟨c,22,none⟩=some (.map (some p.sm))/\(Instr.lookup 116 (.map (some p.sm)) (.int .i64 k) false).run prog w9=.ok (.int .i64 (sm:Int)) w9)):=by
   intro w9 hb9;have hu9:=(hud.trans hu8).trans (uuo (S:=fun _=>False) hb9);exact⟨⟨h6.new hu9,d6.trans (h6.ji hu9)⟩,hu9.range r6 (fun h=>h),hu9.jc g6,hMM _ hu9⟩
  have HX:=Y6 hR hmo4 hw7 hw8 hsm hgm2;clear h6 d6 r6 g6 hmo4 hR hy hcd hgo6 hgm hgm2 hf hud hu8 g8 h7 h8 r8 hMM hw7 hw8 hsm H6 hk0 hk4;go_upto_region 11 with fail
  refine qZj (S:=fun W=>W.cell? ⟨c,22,none⟩=some (.map (some p.sm))/\(Instr.lookup 116 (.map (some p.sm)) (.int .i64 k) false).run prog W=.ok (.int .i64 (sm:Int)) W) (by kernel_rfl) (by rw[<-HX.o.2.2.1];exact m7) (fun _=>?_);rw[<-HX.o.2.2.1];have hHeld:=m7;refine Wl.i [0,3,4,5,6,7,8] ?_;iterate 7 refine Wl.t hHeld ?_
  refine Wl.o ?_;refine Wl.r 1 (fun K hK=>?_);go_simp
  rw[<-HX.o.2.2.2.1];refine hK.o _ _ (m8) (fun hH1=>?_);clear hK K;refine Wl.r 2 (fun K hK=>?_);go_simp
  refine HS.o.mono ?_;rintro e w9 ⟨rfl,hb9⟩;obtain⟨hcd9,r9,g9,m9⟩:=HM9.o w9 hb9;have H9:=Y3 hcd9 r9 g9;refine hK.o _ _ (m9) (fun hH2=>?_);clear hK K;refine Wl.i [9] (Wl.t hH2 (Wl.o ?_));refine Wl.d ?_;clear hHeld hH1 hH2 m7 m8 m9 HS HM9 hb9 hcd9 g9;obtain⟨hR,hmo4,-,-,-,-⟩:=HX.o;have hth:=yY H9.o.2.2 (by rw[zn];rfl);by_cases hq:crcC y=sm
  rotate_left
  .rw [if_neg hq]at hR;have q1:((crcC y:Int)==(sm:Int))=false:=by simpa using fun e=>hq (by omega)
   have q2:((crcC y:Int) !=(sm:Int))=true:=by simp[bne,q1]
   obtain⟨h7,d7⟩:=xL H9.o.1.1 H9.o.1.2 hmo4 HM.o.2.2 HM.o.1 HM.o.2.1 (bkC Z);have H7:=Y3 h7 d7 hR;clear h7 d7 hR hmo4 r9 hq;go_wp2_with (first
    |(refine yg rfl rfl HZ.o.2 ?_)
    |(refine qZi rfl _ _ _ rfl _ _ (bkC Z).toArray rfl rfl (by rw[zo _ hZl];exact hth) (by rw[zo _ hZl];exact zM) (qYu (zv _)) ?_)
    |fail)
   obtain⟨h7,d7,hR⟩:=H7.o;refine qYw (zp rfl _ _ m 0 (bkC Z) _ rfl (qYr _ _ _ _ (by rw[zn,hZl];exact hth)) underlying54 rfl (zw Z hZl)) rfl ?_;rw[hR];exact⟨Z,13,HZ.o.1,rfl,hZl,rfl,own4,h7,d7⟩
  rw[if_pos hq]at hR;have q1:((crcC y:Int)==(sm:Int))=true:=by rw[hq];simp
  have q2:((crcC y:Int) !=(sm:Int))=false:=by simp[bne,q1]
  obtain⟨h7,d7⟩:=xL H9.o.1.1 H9.o.1.2 hmo4 HM.o.2.2 HM.o.1 HM.o.2.1 (bkC y);have H7:=Y3 h7 d7 hR;clear h7 d7 hR hmo4 hq;go_wp2_with (first
   |(refine qZg rfl _ _ rfl _ _ rfl _ _ r9 underlying54 rfl (zw y hyl) ?_)
   |(refine qZi rfl _ _ _ rfl _ _ (bkC y).toArray rfl rfl (by rw[zo _ hyl];exact hth) (by rw[zo _ hyl];exact zM) (qYu (zv _)) ?_)
   |fail)
  obtain⟨h7,d7,hR⟩:=H7.o;refine qYw (zp rfl _ _ m 0 (bkC y) _ rfl (qYr _ _ _ _ (by rw[zn,hyl];exact hth)) underlying54 rfl (zw y hyl)) rfl ?_;rw[hR];exact⟨y,0,rfl,rfl,hyl,rfl,own4,h7,d7⟩
end
section
variable{n:CaN}{a:CaS}{N:Nat}
theorem CaS.takeR_next(n:CaN)(a:CaS)(s:Int):a.next<=(a.jC n s).1.next:=by
 have h:=(a.jf n).1;unfold CaS.jC;split
 .show a.next<=(a.je n).1.next;omega
 .show a.next<=(a.je n).1.next;omega
theorem CaS.take2_next(n:CaN)(a:CaS):a.next<=(a.jE n).1.next:=by
 have h:=(a.committed_next n).1;unfold CaS.jE;split
 .exact qXv _
 .unfold CaS.take3;split
  .show a.next<=(a.jh n).1.next;omega
  split
  .show a.next<=(a.jh n).1.next;omega
  .exact qXx (by show a.next<=(a.jh n).1.next;omega) ((a.jh n).1.al.takeR_next n _)
theorem CaS.takes_next(n:CaN)(a:CaS):a.next<=(a.jj n).1.next:=by
 have h:=CaS.evicts_next n 1 0 a.al;unfold CaS.jj;split
 .exact a.al.takeR_next n _
 .unfold CaS.take1;split
  .split
   .exact h
   .exact qXx h ((CaS.jm n 1 0 a.al).1.take2_next n)
  .exact a.al.take2_next n
theorem CaS.Fit.jB(h:a.Fit N)(hg:a.Jg n)(h1:1<=a.next)(hj:4<=n.jo)(k:Nat)(x:Bk):(a.jB n k x).1.Fit (N+3*n.pa+n.jo+6):=by
 have ht:=h.takes' hg h1 hj;have hn:=a.takes_next n;unfold CaS.jB;split
 .exact ht.mono (by omega)
 split
 .exact (ht.jk (by omega) k x).mono (by omega)
 .have hf:=ht.jl (n:=n) (a.jj n).2.1.toNat (k:Int) x;have hfn:=(yH n (a.jj n).1 (a.jj n).2.1.toNat (k:Int) x).1;unfold CaS.backS;split
  .exact hf.mono (by omega)
  .exact (hf.ju (by omega) (k:Int) _ (crcC x) true (by have:=ve x;omega)).mono (by omega)
theorem CaS.Fit.thru(h:a.Fit N)(hg:a.Jg n)(h1:1<=a.next)(hj:4<=n.jo)(k:Nat)(x:Bk):(a.thru n k x).1.Fit (N+3*n.pa+n.jo+6):=by
 have ht:=h.takes' hg h1 hj;have hn:=a.takes_next n;unfold CaS.thru;split
 .exact ht.mono (by omega)
 split
 .exact (ht.jk (by omega) k x).mono (by omega)
 .have hb:=ht.bw k x;unfold CaS.thruS;split
  .exact (hb.turned _).mono (by omega)
  .have hf:=hb.jl (n:=n) (a.jj n).2.1.toNat (k:Int) x;have hfn:=(yH n ((a.jj n).1.jy (writeR (a.jj n).1.bF (a.jj n).1.bO (a.jj n).1.bP k x)) (a.jj n).2.1.toNat (k:Int) x).1;replace hfn:_=(a.jj n).1.next:=hfn;unfold CaS.thruF;split
   .exact (hf.byp (by rw[hfn];omega) k).mono (by omega)
   .exact (hf.ju (by rw[hfn];omega) (k:Int) _ (crcC x) false (by have:=ve x;omega)).mono (by omega)
theorem CaS.Fit.jD(h:a.Fit N)(hg:a.Jg n)(h1:1<=a.next)(hj:4<=n.jo)(k:Int)(x:Bk)(md:Int):(a.jD n k x md).1.Fit (N+3*n.pa+n.jo+6):=by
 unfold CaS.jD;split
 .exact h.mono (by omega)
 split
 .exact h.mono (by omega)
 split
 .exact h.jB hg h1 hj _ x
 split
 .exact h.thru hg h1 hj _ x
 .exact (h.jk h1 _ x).mono (by omega)
theorem CaS.Fit.gone(h:a.Fit N)(h1:1<=a.next)(k:Int):(a.gone n k).1.Fit (N+n.pa+2):=by
 unfold CaS.gone;split
 .exact h.mono (by omega)
 .exact h.jk h1 _ _
theorem CaS.Tie.backS{s k:Nat}(h:a.Tie n (some s))(hk:k<n.bl)(x:Bk):(a.backS n k s x).1.Tie n none:=by
 unfold CaS.backS;rcases CaS.Tie.jl h (k:Int) x with⟨hc,ht⟩|⟨hc,ht⟩
 .rw [if_neg (by omega)];exact(CaS.Tie.put ht hk (crcC x) true).2.2
 .rw [if_pos hc];exact ht
theorem CaS.Tie.thruS{s k:Nat}(h:a.Tie n (some s))(hk:k<n.bl)(x:Bk):(a.thruS n k s x).1.Tie n none:=by
 unfold CaS.thruS;split
 .exact (TieL.shut h (.inl rfl)).2
 .unfold CaS.thruF;have h':(a.jy (writeR a.bF a.bO a.bP k x)).Tie n (some s):=h;rcases CaS.Tie.jl h' (k:Int) x with⟨hc,ht⟩|⟨hc,ht⟩
  .rw [if_neg (by omega)];exact(CaS.Tie.put ht hk (crcC x) false).2.2
  .rw [if_pos hc];exact CaS.Tie.byp ht k
theorem CaS.Tie.jB(h:a.Tie n none)(h1:1<=a.next)(hj:4<=n.jo){k:Nat}(hk:k<n.bl)(x:Bk):(a.jB n k x).1.Tie n none:=by
 have ht:=CaS.Tie.jj h h1 hj;unfold CaS.jB;rcases ht with⟨h2,h3,-,s,h4,h5⟩|⟨h2,h5⟩
 .rw [if_neg (by omega),if_neg (by rw[h2];decide),h4,qxu];exact CaS.Tie.backS h5 hk x
 .split
  .exact h5
  .exact CaS.Tie.jk h5 k x
theorem CaS.Tie.thru(h:a.Tie n none)(h1:1<=a.next)(hj:4<=n.jo){k:Nat}(hk:k<n.bl)(x:Bk):(a.thru n k x).1.Tie n none:=by
 have ht:=CaS.Tie.jj h h1 hj;unfold CaS.thru;rcases ht with⟨h2,h3,-,s,h4,h5⟩|⟨h2,h5⟩
 .rw [if_neg (by omega),if_neg (by rw[h2];decide),h4,qxu];exact CaS.Tie.thruS h5 hk x
 .split
  .exact h5
  .exact CaS.Tie.jk h5 k x
theorem CaS.Tie.jD(h:a.Tie n none)(h1:1<=a.next)(hj:4<=n.jo)(k:Int)(x:Bk)(md:Int):(a.jD n k x md).1.Tie n none:=by
 unfold CaS.jD;split
 .exact h
 next hk=>
 split
 .exact h
 split
 .exact CaS.Tie.jB h h1 hj (by omega) x
 split
 .exact CaS.Tie.thru h h1 hj (by omega) x
 .exact CaS.Tie.jk h _ x
theorem CaS.Tie.gone(h:a.Tie n none)(k:Int):(a.gone n k).1.Tie n none:=by
 unfold CaS.gone;split
 .exact h
 .exact CaS.Tie.jk h _ _
end
theorem xq(n k:Nat):plc (List.replicate n (-1,false)) k=(-1,false):=by
 rw[plc,qyh,qys];split<;>rfl
theorem wW(n s:Nat):(List.replicate n (0:Int)).getD s 0=0:=by
 rw[qyh,qys];split<;>rfl
theorem tf(bl sl:Nat):TieL bl sl (List.replicate bl (-1,false)) (List.replicate sl 0) [] none:={
  hpl:=qzi
  hsl:=qzi
  good:=Good.start _ _
  live:=fun k _ hn=>absurd (xq _ k) hn
  used:=fun s _ h2=>by rw[wW]at h2;cases h2
  opn:=fun s _=>by rw[wW];simp
  rng:=fun s _=>by rw[wW];decide
  olt:=fun s h=>by cases h
  kk:=fun k=>by
   rw[zR];constructor
   .intro h;cases h
   .rintro ⟨m,-,-,hn⟩;exact absurd (xq _ m) hn
  kd:=qXc}
theorem RT(n:CaN):(zbG n).Tie n none:=(tf n.bl n.sl).freed
end Go.Proofs.YtfhfbpmlnjdfoaaGreatDoor
