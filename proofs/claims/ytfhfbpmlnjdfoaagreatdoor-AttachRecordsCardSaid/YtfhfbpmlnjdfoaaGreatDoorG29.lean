/- A cache: Clean. The small superblock. A block  -/
import Derived.Test.YtfhfbpmlnjdfoaaGreatDoorG28
set_option maxRecDepth 100000
set_option maxHeartbeats 2000000
namespace Go.Proofs.YtfhfbpmlnjdfoaaGreatDoor
open Go Go.RowKit
section
variable{own:Nat->Nat}{w w':World}{c:Nat}{n:CaN}{p:CaP}{a:CaS}{N:Nat}
theorem Sx(h:CaAt own w c n p a)(hf:a.Fit N)(hN:N<=50000)(ht:a.Tie n none)(k:Int):
  Calls Tryz.prog 168 #[ptr c,.int .i64 k] w (zu own w c n p (a.cleaned n k).1 (.int .i64 (a.cleaned n k).2)):=by
 have HG:=qqh (qe h k);obtain⟨-,-,-,-,d4,-,-,-,-⟩:=h.cells;obtain⟨R,hR⟩:=qqe (a.cleaned n k);rw[<-hR];unfold CaS.cleaned at hR;have H:=Y4 h hf hN ht;clear h hf hN ht;obtain⟨pv,hpv⟩:=qqe (getV a.ps k);rw[<-hpv]at HG hR;obtain⟨cd,hcd⟩:=qqe (getC a.ps k);rw[<-hcd]at HG hR;obtain⟨s,d⟩:=pv;replace hR:=qqh hR;replace hpv:=qqh hpv;replace hcd:=qqh hcd;go_enter Tryz.func168,Tryz.ntmps168
 go_wp2_with fail
 refine HG.o.mono ?_;rintro e w1 ⟨rfl,own1,h1,hd1⟩;obtain⟨w2,hw2⟩:=qqe (w1.alloc (.cells #[.int .i64 s,.bool d] 95));have hu2:Upd (fun _=>False) w1 w2:=by rw[hw2];exact(uur _ w1).alloc _
 have hg2:w2.heap[w1.heap.size]?=some (.cells #[.int .i64 s,.bool d] 95 (0,0)):=by rw[hw2];exact zc w1 _ rfl
 obtain⟨m,hm⟩:=qqe (w1.heap.size);have hm0:own1 m=0:=h1.far _ (by omega);rw[<-hm]at hg2;have h2:=h1.new hu2;have d2:=hd1.trans (h1.didNew hu2);have H2:=Y4 h2 d2 hg2 hm0;have HM:=Y2 hm hw2;clear h1 hd1 hu2 hg2 hm0 h2 d2 HG d4 hm hw2;by_cases hc:cd=0
 rotate_left
 .have q0:(cd==0)=false:=by simpa using hc
  go_wp2
  rw[<-HM.o.2];go_ret
  have hr:=hR.out;rw[if_pos hc]at hr;rw[hr];exact⟨rfl,own1,H2.o.1,H2.o.2.1⟩
 subst hc;have hr:=hR.out;rw[if_neg (fun e=>e rfl)]at hr;replace hR:=qqh hr;clear hr;have HC:=qqh (wR H2.o.1 H.o.2.1 H.o.2.2.1);have hrs:=a.roomed_next n;have hsm:=(a.same_roomed n).sums;have hrr:(a.roomed n).2=0->(a.roomed n).1.next+1<=(a.roomed n).1.cov+n.jo:=fun e=>CaS.roomed_room e H.o.1.nx1 H.o.1.ok.j1;generalize a.roomed n=r at*;obtain⟨b,cr⟩:=r;simp only at hrs hsm hrr;have HX:=Y3 hrs hsm hrr;clear hrs hsm hrr;replace HC:Hid (Calls Tryz.prog 164 #[ptr c] w2 (zu own1 w2 c n p b (.int .i64 cr))):=HC;go_wp2_with fail
 rw[<-HM.o.2,<-HM.o.1];refine HC.o.mono ?_;rintro e w3 ⟨rfl,own3,h3,d3⟩;by_cases hc:cr=0
 rotate_left
 .have q0:(cr==0)=false:=by simpa using hc
  have H3:=Y2 h3 (H2.o.2.1.trans d3);have hr:=hR.out;replace hr:R=if cr≠0 then(b,cr)else _:=hr
  rw[if_pos hc]at hr;clear h3 d3 HC HX;go_wp2
  go_ret
  rw[hr];exact⟨rfl,own3,H3.o.1,H3.o.2⟩
 subst hc;have hr:=hR.out;replace hr:R=if(0:Int)≠0 then(b,0)else({b.noted n 0 k s false (((a.sums k).getD 0:Nat):Int)with ps:=cleanL a.ps k},0):=hr
 rw[if_neg (fun e=>e rfl)]at hr;obtain⟨⟨hnx,hps⟩,hsm,hroom⟩:=HX.o;replace hroom:=hroom rfl;obtain⟨q,hq,rfl,hqn⟩:=zQ.1 (show getC a.ps k=0 from hcd.out.symm);have hqb:q<n.bl:=by rw[<-H.o.1.pl];exact hq
 obtain⟨sn,hsn,hse,-⟩:=TieL.slot H.o.2.2.2 hqb hqn;have hss:s=(sn:Int):=by
  have:=congrArg Prod.fst hpv.out;rw[yZ hq hqn,hse]at this;exact this
 subst hss;obtain⟨sum,hsum⟩:=qqe ((a.sums (q:Int)).getD 0);rw[<-hsum]at hr;have hsl:sum<=4294967295:=by
  rw[hsum];cases hv:a.sums (q:Int)with
  |none=>simp
  |some v=>simpa using H.o.2.1.sm _ _ hv
 have hb2:=h3.ok.b2;have hs2:=h3.ok.s2;have hmay:mayR (jaddX b.next n.jo 0 (q:Int) (sn:Int) false (sum:Int))=true:=by
  have h0:=h3.nx1;have h1:=H.o.2.1.nx;have h2:=H.o.2.2.1;have h4:=h3.ok.j1;exact wF (s:=sn) false h0 (by omega) (by omega) ⟨by omega,by omega⟩ (by omega) hsl
 obtain⟨-,-,-,d3c,-,-,-,-,d8⟩:=h3.cells;have hq1: -9223372036854775808<=(q:Int):=by omega
 have hq2:(q:Int)<9223372036854775808:=by omega
 have hg3:=(d3.upd.block _ (zd H2.o.2.2.1) (fun hs=>hs.1 H2.o.2.2.2)).trans H2.o.2.2.1;have hud3:=(uur (fun _=>False) w3).drew;have hL:∀X,Upd (fun _=>False) w3 X->(Instr.lookup 116 (.map (some p.sm)) (.int .i64 (q:Int)) false).run Tryz.prog X=.ok (.int .i64 (sum:Int)) X:=fun X hX=>by
  rw[hsum,<-hsm];exact(h3.new hX).sm.1.look1 hq1 hq2
 obtain⟨w4,hw4⟩:=qqe ((w3.alloc (.cells (recC 0 0 0 0 0 false 0).toArray 101)).drew);have hu4:Upd (fun _=>False) w3 w4:=by rw[hw4];exact((uur _ w3).alloc _).drew
 obtain⟨g,hg⟩:=qqe (w3.heap.size);have hg4:w4.heap[g]?=some (.cells (recC 0 0 0 0 0 false 0).toArray 101 (0,0)):=by rw[hw4,hg];exact zc w3 _ rfl
 have hg0:own3 g=0:=h3.far _ (by omega);have h4:=h3.new hu4;have d4:=d3.trans (h3.didNew hu4);have hth:w4.there g 0 7:=fun j hj=>by
  rw[za hg4,zf hg4,qYe];exact⟨by rw[qxe (by simpa using hj)];rfl,rfl⟩
 obtain⟨w5,hw5⟩:=qqe (w4.setCells g 0 (recC 0 0 0 (q:Int) (sn:Int) false (sum:Int)));have hus:=zp w4 g 0 (recC 0 0 0 (q:Int) (sn:Int) false (sum:Int));rw[<-hw5]at hus;have hrow:CaAt own3 w5 c n p b/\Did own1 own3 w2 w5:=by
  rw[hw5];have hn1:=h3.nib.lt;have hn2:=h3.tur.lt;refine⟨h4.nobody (zp _ _ _ _) (fun j e=>by subst e;exact⟨hg0,by omega,by omega⟩),⟨d4.upd.new (zp _ _ _ _) (fun i hi e=>?_),d4.old,d4.new,fun j hj=>d4.far j (by have:=(zp w4 g 0 (recC 0 0 0 (q:Int) (sn:Int) false (sum:Int))).size;omega)⟩⟩;have:=d3.upd.size;omega
 have r5:w5.rangeAt g 0 (recC 0 0 0 (q:Int) (sn:Int) false (sum:Int)):=by rw[hw5];exact qYr _ _ _ _ hth
 have hut:=Tryz.underlying101;have hsi:=infoThR;have hgc:¬g=c:=fun e=>by have:=h3.clt;omega
 have hgm:¬g=m:=fun e=>by have:=zd hg3;omega
 have c1:=za (hud3.blockv hg3) 0;have c2:=za (hu4.blockv hg3) 0;simp at c1 c2;have H4:=Y8 hrow r5 hroom hmay hr hnx hps hg0;have HS1:Hid (w3.drew.cell? ⟨m,0,none⟩=some (.int .i64 (sn:Int))/\w3.drew.cell? ⟨c,22,none⟩=some (.map (some p.sm))/\(Instr.lookup 116 (.map (some p.sm)) (.int .i64 (q:Int)) false).run Tryz.prog w3.drew=.ok (.int .i64 (sum:Int)) w3.drew):=⟨c1,(h3.new hud3).cells.2.2.2.2.2.2.2.2,hL _ hud3⟩
 have HS2:Hid (w4.cell? ⟨m,0,none⟩=some (.int .i64 (sn:Int))/\w4.cell? ⟨c,22,none⟩=some (.map (some p.sm))/\(Instr.lookup 116 (.map (some p.sm)) (.int .i64 (q:Int)) false).run Tryz.prog w4=.ok (.int .i64 (sum:Int)) w4):=⟨c2,h4.cells.2.2.2.2.2.2.2.2,hL _ hu4⟩
 have HS3:Hid (w5.cell? ⟨m,0,none⟩=some (.int .i64 (sn:Int))/\w5.cell? ⟨c,22,none⟩=some (.map (some p.sm))/\(Instr.lookup 116 (.map (some p.sm)) (.int .i64 (q:Int)) false).run Tryz.prog w5=.ok (.int .i64 (sum:Int)) w5):=⟨hus.cellv c2 (fun e=>hgm e.symm),hrow.1.cells.2.2.2.2.2.2.2.2,by rw[hsum,<-hsm];exact hrow.1.sm.1.look1 hq1 hq2⟩
 have HW:=Y3 hw4 hw5 hg;have HT:=qqh hth;clear h3 d3 hg3 hu4 hg4 hg0 h4 d4 hth hus hrow r5 hroom hmay hr hnx hps hsm hw4 hw5 hgc hgm hud3 hL hsum hsl hb2 hs2 hq1 hq2 c1 c2 d3c d8 hq hqn hqb hsn hse HC HX;go_upto_region 9 with fail
 go_cut [8] (fun s8 wx=>s8=.pointer (some ⟨g,0,none⟩)/\wx=w5)
 case first=>
  refine qZj (S:=fun W=>W.cell? ⟨m,0,none⟩=some (.int .i64 (sn:Int))/\W.cell? ⟨c,22,none⟩=some (.map (some p.sm))/\(Instr.lookup 116 (.map (some p.sm)) (.int .i64 (q:Int)) false).run Tryz.prog W=.ok (.int .i64 (sum:Int)) W) (by kernel_rfl) (HS1.o) (fun hHeld=>?_);refine Wl.i [0,1,2,3,4,5,6,7,8] ?_;iterate 9 refine Wl.t hHeld ?_
  refine Wl.o ?_;refine qZe (rs:=[9,10]) (by kernel_rfl) (by simp) ?_;refine qxb rfl (fun K hK=>?_) (qxb rfl (fun K hK=>?_) qxc)
  .go_simp
   refine hK.o _ _ (HS1.o) (fun _=>?_);clear hK K;refine Wl.r 10 (fun K hK=>?_);go_simp
   rw[<-HW.o.2.2,show(w3.alloc (.cells #[.int .i64 0,.int .i64 0,.int .i64 0,.int .i64 0,.int .i64 0,.bool false,.int .i64 0] 101)).drew=w4 from HW.o.1.symm];refine hK.o _ _ (HS2.o) (fun _=>?_);clear hK K
   try rw[<-HW.o.2.2]
   refine Wl.r 11 (fun K hK=>?_);rw[if_pos (by rfl)];refine qZk _ _ _ rfl _ _ (recC 0 0 0 (q:Int) (sn:Int) false (sum:Int)).toArray rfl rfl HT.o hsi (qYu (by intro v hv;simp at hv;rcases hv with rfl|rfl|rfl|rfl|rfl|rfl|rfl<;>rfl)) ?_;simp only[Act.put,qXi];rw[<-HW.o.2.1];refine hK.o _ _ (HS3.o) (fun _=>?_);clear hK K;refine Wl.d ?_;go_wp2_with fail
   go_meet
   case rel=>exact⟨rfl,rfl⟩
  .go_simp
   rw[<-HW.o.2.2,show(w3.alloc (.cells #[.int .i64 0,.int .i64 0,.int .i64 0,.int .i64 0,.int .i64 0,.bool false,.int .i64 0] 101)).drew=w4 from HW.o.1.symm];refine hK.o _ _ (HS2.o) (fun _=>?_);clear hK K;refine Wl.r 9 (fun K hK=>?_);go_simp
   refine hK.o _ _ (HS2.o) (fun _=>?_);clear hK K
   try rw[<-HW.o.2.2]
   refine Wl.r 11 (fun K hK=>?_);rw[if_pos (by rfl)];refine qZk _ _ _ rfl _ _ (recC 0 0 0 (q:Int) (sn:Int) false (sum:Int)).toArray rfl rfl HT.o hsi (qYu (by intro v hv;simp at hv;rcases hv with rfl|rfl|rfl|rfl|rfl|rfl|rfl<;>rfl)) ?_;simp only[Act.put,qXi];rw[<-HW.o.2.1];refine hK.o _ _ (HS3.o) (fun _=>?_);clear hK K;refine Wl.d ?_;go_wp2_with fail
   go_meet
   case rel=>exact⟨rfl,rfl⟩
 case rest=>
  obtain⟨rfl,rfl⟩:=hcut;obtain⟨⟨h5,d5⟩,r5,hroom,hmay,hr,hnx,hps,hg0⟩:=H4.o;have hud:=(uur (fun _=>False) wc).drew;have hbn:b.next<=50000:=by have h1:=H.o.2.1.nx;have h2:=H.o.2.2.1;omega
  have HJ:=qqh (sX (h5.new hud) (by omega) (by omega) 0 0 0 (q:Int) (sn:Int) false (sum:Int) hmay);obtain⟨-,-,-,d3c,-,-,-,-,-⟩:=h5.cells;have D5:=qqh (H2.o.2.1.trans (d5.trans (h5.didNew hud)));clear h5 d5 hud HS1 HS2 HS3 HT HW;go_upto_region 10 with fail
  refine qZj (S:=fun W=>W.cell? ⟨c,17,none⟩=some (ptr p.jr)/\W.rangeAt g 0 (recC 0 0 0 (q:Int) (sn:Int) false (sum:Int))) (by kernel_rfl) (by(simp only[qYo,qYq]);exact⟨d3c,r5⟩) (fun hHeld=>?_);refine Wl.i [0,1,2,3] ?_;iterate 4 refine Wl.t hHeld ?_
  refine Wl.o ?_;refine Wl.l 4 (fun w h=>h.2) hut hsi hHeld ?_;refine Wl.r 5 (fun K hK=>?_);go_simp
  refine HJ.o.mono ?_;rintro e w6 ⟨rfl,own6,h6,d6⟩;obtain⟨-,-,-,i3,i4,-,-,-,-⟩:=h6.cells;have r6:=d6.upd.range (show wc.drew.rangeAt g 0 (recC 0 0 0 (q:Int) (sn:Int) false (sum:Int)) by rw[qYq];exact r5) (fun h=>h.1 hg0);have HP:=qqh (Tq h6 (q:Int));have H6:=qqh (D5.out.trans d6);clear h6 d6 r5 d3c HJ;refine hK.o _ _ (⟨i3,r6⟩) (fun hH1=>?_);clear hK K;refine Wl.i [6,7,8] ?_;iterate 3 refine Wl.t hH1 ?_
  refine Wl.o ?_;refine Wl.r 9 (fun K hK=>?_);go_simp
  refine hK.o _ _ (hH1) (fun hH2=>?_);clear hK K;refine Wl.r 10 (fun K hK=>?_);go_simp
  refine hK.o _ _ (hH2) (fun hH3=>?_);clear hK K;refine Wl.d ?_;have hc1:getC a.ps (q:Int)=0:=hcd.out.symm;have HR:=qqh hr;replace HP:Hid (Calls Tryz.prog 241 #[ptr p.ix,.int .i64 (q:Int)] w6 (zu own6 w6 c n p {b.noted n 0 (q:Int) (sn:Int) false (sum:Int)with ps:=cleanL b.ps (q:Int)} (.int .i64 (getC b.ps (q:Int))))):=HP;rw[hps,hc1]at HP;clear hHeld hH1 hH2 hH3 hr hps hc1 hut hsi hroom hmay hnx r6 i3 hg0;go_wp2_with fail
  refine HP.o.mono ?_;rintro e w7 ⟨rfl,own7,h7,d7⟩;go_wp2
  go_ret
  rw[HR.o];exact⟨rfl,own7,h7,H6.o.trans d7⟩
end
theorem XE(id bl sl jo pa lo ba:Int):∀v∈superC id bl sl jo pa lo ba,v.oneCell'=true:=by
 intro v hv;simp only[superC,qzr,qXd,qZb]at hv;rcases hv with rfl|rfl|rfl|rfl|rfl|rfl|rfl<;>rfl
def fillB(v:Nat):Bk:=List.replicate 64 (UInt8.ofNat v)
def xO(v i:Nat):Bk:=List.replicate i (UInt8.ofNat v)++List.replicate (64-i) 0
theorem XF{v i:Nat}(h:i<=64):(xO v i).length=64:=by simp[xO];omega
theorem XG{v i:Nat}(h:i<64):(xO v i).set i (UInt8.ofNat v)=xO v (i+1):=by
 unfold xO;rw[qXj _ _ (by simp),qzi,Nat.sub_self];obtain⟨k,hk⟩:∃k,64-i=k+1:=⟨63-i,by omega⟩
 rw[hk,List.replicate_succ,qXl,show 64-(i+1)=k by omega,List.replicate_succ',qxx];rfl
theorem wT(v:Nat):(fillB v).length=64:=by simp[fillB]
theorem XH(v:Nat):xO v 64=fillB v:=by simp[xO,fillB]
theorem Yq:xO 0 0=fillB 0:=rfl
theorem TY(l:Bk)(i:Nat)(v:Nat)(hv:v<=255):(bkC l).toArray.setIfInBounds i (.int .u8 (v:Int))=(bkC (l.set i (UInt8.ofNat v))).toArray:=by
 have:Go.Extern.Stop.cell (UInt8.ofNat v)=.int .u8 (v:Int):=by
  simp only[Go.Extern.Stop.cell]
  congr 1
  simp[UInt8.toNat_ofNat'];omega
 rw[<-this];apply Array.toList_inj.1;simp[bkC,List.map_set]
theorem Yr(v:Nat)(hv:v<=255)(w:World):Calls Tryz.prog 86 #[.int .i64 (v:Int)] w fun e w'=>e=.returned (.agg (bkC (fillB v)).toArray)/\Below w.heap.size w w':=by
 obtain⟨Z,hZ⟩:=qqe (zB);have hZl:Z.length=64:=by rw[hZ];rfl
 have HZ:=Y2 hZ (vz Z hZ);clear hZ;obtain⟨w1,hw1⟩:=qqe ((w.alloc (.cells (bkC Z).toArray 54)).alloc (.cells (bkC Z).toArray 54));have g0:w1.heap[w.heap.size]?=some (.cells (bkC Z).toArray 54 (0,0)):=by rw[hw1];exact(qxk _ _ _ (by simp)).trans (zc w _ rfl)
 have g1:w1.heap[w.heap.size+1]?=some (.cells (bkC Z).toArray 54 (0,0)):=by rw[hw1];exact zc _ _ (by simp)
 have hb1:Below w.heap.size w w1:=by rw[hw1];exact((qxl _ w).alloc (qXv _) _).alloc (by simp) _
 have H:=Y3 g0 g1 hb1;have HW:=qqh hw1;clear g0 g1 hb1 hw1;go_enter Tryz.func86,Tryz.ntmps86
 go_wp2_with (first
  |(refine zT rfl _ rfl _ HZ.o.2 ?_)
  |fail)
 rw[<-HW.o];have hlt:w.heap.size+1<w1.heap.size:=zd H.o.2.1;go_loopw[4] (fun i wr=>∃k:Nat,k<=64/\i=.int .i64 (k:Int)/\(v=0->k=0)/\wr.heap[w.heap.size+1]?=some (.cells (bkC (xO v k)).toArray 54 (0,0))/\Upd (fun j=>j=w.heap.size+1) w1 wr)
  (fun i _=>64-(intOf i).toNat)
 case atStart=>
  refine⟨0,by omega,rfl,fun _=>rfl,?_,uur _ _⟩;rw[H.o.2.1,HZ.o.1];rfl
 case round=>
  obtain⟨k,hk,rfl,hk0,hg,hu⟩:=hrel;by_cases hlt2:k<64
  .by_cases hv0:v=0
   .have q0:((v:Int)==0)=true:=by simpa using hv0
    have q1:((v:Int) !=0)=false:=by simpa using hv0
    have hk1:=hk0 hv0;subst hk1;rw[hv0,Yq]at hg;have hu2:Below w.heap.size w wr:=zj H.o.2.2 hu (qXv _) (fun k h=>by omega);have g0:=(hu.block w.heap.size (by omega) (by omega)).trans H.o.1;have hth:=xe g0 (by rw[zo];exact hZl);obtain⟨y,hy⟩:=qqe (fillB 0);rw[<-hy]at hg;have hyl:y.length=64:=by rw[hy];exact wT 0
    have r1:=zg hg;have HX:=Y2 (show y=fillB v by rw[hv0];exact hy) hu2;clear hy hg hu hu2 g0 hk0 hv0 hk;go_wp2_with (first
     |(refine qZg rfl _ _ rfl _ _ rfl _ _ r1 Tryz.underlying54 rfl (zt y hyl) ?_)
     |(refine qZi rfl _ _ _ rfl _ _ (bkC y).toArray rfl rfl (by rw[zl _ hyl];exact hth) (by rw[zl _ hyl];exact zF) (qYu (zv _)) ?_)
     |fail)
    refine qYw (zM rfl _ _ w.heap.size 0 (bkC y) _ rfl (qYr _ _ _ _ (by rw[zo,hyl];exact hth)) Tryz.underlying54 rfl (zt y hyl)) rfl ?_;rw[<-HX.o.1];exact⟨rfl,zj HX.o.2 (zp _ _ _ _) (qXv _) (fun k h=>by omega)⟩
   .have q0:((v:Int)==0)=false:=by simpa using hv0
    have q1:((v:Int) !=0)=true:=by simpa using hv0
    have c1:=za hg k;have f1:=zf hg k;have hcs:∃u,(bkC (xO v k)).toArray[k]?=some u:=by
     rw[qxe (by rw[qXm,zo,XF (by omega)];exact hlt2)];exact⟨_,rfl⟩
    obtain⟨u,hu0⟩:=hcs;rw[hu0]at c1;have hS:=zh hg k (.int .u8 (v:Int));rw[TY _ _ _ hv,XG hlt2]at hS;have hU:=hu.trans (zi wr (w.heap.size+1) k (.int .u8 (v:Int)));have HS:=Y2 hS hU;have k0:(0:Int)<=(k:Int):=by omega
    have k1:(k:Int)<64:=by omega
    have v1:(v:Int)<256:=by omega
    have hv1:=qqh hv0;clear hS hU hg hu hu0 hk0 hv0;go_wp2
    go_roundw
    case rel=>exact⟨k+1,by omega,by go_num,fun e=>absurd e hv1.out,HS.o.1,HS.o.2⟩
    case measure=>simp[intOf];omega
  .obtain rfl:k=64:=by omega
   have hu2:Below w.heap.size w wr:=zj H.o.2.2 hu (qXv _) (fun k h=>by omega);have g0:=(hu.block w.heap.size (by omega) (by omega)).trans H.o.1;have hth:=xe g0 (by rw[zo];exact hZl);rw[XH]at hg;obtain⟨y,hy⟩:=qqe (fillB v);rw[<-hy]at hg;have hyl:y.length=64:=by rw[hy];exact wT v
   have r1:=zg hg;have HX:=Y2 hy hu2;clear hy hg hu hu2 g0 hk0 hk;go_wp2_with (first
    |(refine qZg rfl _ _ rfl _ _ rfl _ _ r1 Tryz.underlying54 rfl (zt y hyl) ?_)
    |(refine qZi rfl _ _ _ rfl _ _ (bkC y).toArray rfl rfl (by rw[zl _ hyl];exact hth) (by rw[zl _ hyl];exact zF) (qYu (zv _)) ?_)
    |fail)
   refine qYw (zM rfl _ _ w.heap.size 0 (bkC y) _ rfl (qYr _ _ _ _ (by rw[zo,hyl];exact hth)) Tryz.underlying54 rfl (zt y hyl)) rfl ?_;rw[<-HX.o.1];exact⟨rfl,zj HX.o.2 (zp _ _ _ _) (qXv _) (fun k h=>by omega)⟩
def smN(bl sl jo:Nat):CaN:=⟨7,bl,sl,jo,(sl-1)/4+1,2,3⟩
theorem rW(bl sl jo:Nat)(hs1:1<=sl)(hs2:sl<=100)(w:World):Calls Tryz.prog 29 #[.int .i64 (bl:Int),.int .i64 (sl:Int),.int .i64 (jo:Int)] w fun e w'=>e=.returned (.agg (smN bl sl jo).C.toArray)/\Below w.heap.size w w':=by
 obtain⟨pa,hpa⟩:=qqe ((sl-1)/4+1);have HN:Hid (∀w,Calls Tryz.prog 54 #[.int .i64 (sl:Int)] w fun e w'=>e=.returned (.int .i64 (pa:Int))/\w=w'):=by
  intro w;rw[hpa];exact need_any sl hs1 (by omega) w
 have HC:Hid ((smN bl sl jo).C=superC 7 (bl:Int) (sl:Int) (jo:Int) (pa:Int) 2 3):=by
  show _=_;unfold smN CaN.C;rw[<-hpa];rfl
 rw[HC.o];clear hpa;obtain⟨L,hL⟩:=qqe (superC 7 (bl:Int) (sl:Int) (jo:Int) (pa:Int) 2 3);have h1:∀v∈L,v.oneCell'=true:=by rw[hL];exact XE _ _ _ _ _ _ _
 have h7:L.length=7:=by rw[hL];rfl
 have hi:(Tryz.prog.info? 40).map (·.size)=some L.length:=by rw[h7];exact yY
 have HI:=Y3 h7 hi h1;clear h7 hi h1;replace hL:=qqh hL;rcases(show sl=1\/2<=sl by omega)with rfl|h2
 all_goals
  (try simp only[Int.natCast_one]at*)
  go_enter Tryz.func29,Tryz.ntmps29
  go_wp2_with (first
   |(go_at_call 54;refine(HN.o _).mono ?_;rintro e w' ⟨rfl,rfl⟩)
   |(refine zk rfl _ _ _ rfl _ _ L rfl (by rw[hL.out];rfl) (by rw[HI.o.1];rfl) HI.o.2.1 HI.o.2.2 ?_)
   |fail)
  exact qYw (zM rfl _ _ w.heap.size 0 L _ rfl (zg (zc w _ rfl)) Tryz.underlying40 rfl HI.o.2.1) rfl ⟨by rw[hL.out],(qxl _ w).alloc (qXv _) _⟩
def CaS.back14f(n:CaN)(b:CaS)(k:Int):CaS×Int:=if(flushR b.bF b.bO b.bP).cd≠0 then(b.fb,(flushR b.bF b.bO b.bP).cd)else b.fb.cleaned n k
def CaS.back14w(n:CaN)(b:CaS)(k:Int)(x:Bk):CaS×Int:=
 if(writeR b.bF b.bO b.bP k.toNat x).cd≠0 then(b.bdev (writeR b.bF b.bO b.bP k.toNat x),(writeR b.bF b.bO b.bP k.toNat x).cd)else(b.bdev (writeR b.bF b.bO b.bP k.toNat x)).back14f n k
def CaS.back14(n:CaN)(a:CaS)(k:Int):CaS×Int:=
 if(getV a.ps k).2=false then(a,0)else if(a.readB n k).2.2≠0 then((a.readB n k).1,(a.readB n k).2.2)else(a.readB n k).1.back14w n k (a.readB n k).2.1
def CaS.plan14(a:CaS)(md:Int)(nv:Nat):CaS:=if md=0 then{a with dP:=a.dP++[((nv%2:Nat):Int)]}else{a with bP:=a.bP++[((nv%2:Nat):Int)]}
def CaS.does14(n:CaN)(a:CaS)(dd blk:Int)(nv:Nat)(md:Int):CaS×Int:=
 if dd=0 then a.wrote n blk (fillB nv) md else if dd=1 then a.gone n blk else if dd=2 then((a.readB n blk).1,(a.readB n blk).2.2)else if dd=3 then a.committed n else if dd=4 then a.ckpt n
 else if dd=5 then((CaS.evicts n (nv%4) 0 a).1,(CaS.evicts n (nv%4) 0 a).2.2)else if dd=6 then a.back14 n blk else if dd=7 then(a.plan14 md nv,0)else(a,0)
structure CaS.Dn(a b:CaS):Prop where
 d:b.dP<:+a.dP
 b:b.bP<:+a.bP
section
variable{n:CaN}{a b c:CaS}
theorem CaS.Dn.refl(a:CaS):CaS.Dn a a:=⟨qXn _,qXn _⟩
theorem CaS.Dn.trans(h:CaS.Dn a b)(g:CaS.Dn b c):CaS.Dn a c:=⟨g.d.trans h.d,g.b.trans h.b⟩
theorem TZ(F:List Bk)(O:List (Nat×Bk))(P:List Int):(flushR F O P).P=P.tail:=by unfold flushR;split;rfl;split<;>rfl
theorem Qa(F:List Bk)(O:List (Nat×Bk))(P:List Int)(s:Nat)(y:Bk):(writeR F O P s y).P=P.tail:=by unfold writeR;split;rfl;split<;>rfl
theorem yW(F:List Bk)(O:List (Nat×Bk))(P:List Int):(flushR F O P).P<:+P:=by rw[TZ];exact List.tail_suffix P
theorem yA(F:List Bk)(O:List (Nat×Bk))(P:List Int)(s:Nat)(y:Bk):(writeR F O P s y).P<:+P:=by rw[Qa];exact List.tail_suffix P
theorem qy(F:List Bk):∀(L O:List (Nat×Bk)) (P:List Int),(wrsR F L O P).P<:+P
 |[],_,P=>qXn P
 |(s,y)::L,O,P=>by
  rw[wrsR];split
  .exact (qy F L _ _).trans (yA F O P s y)
  .exact yA F O P s y
theorem Ue(F:List Bk)(O:List (Nat×Bk))(P:List Int)(L:List (Nat×Bk)):(saveR F O P L).P<:+P:=by
 unfold saveR;split
 .exact (yW _ _ _).trans (qy F L O P)
 .exact qy F L O P
theorem Ys(base n:Nat)(F:List Bk):∀(W O:List (Nat×Bk)) (P:List Int),(comW base n F W O P).P<:+P
 |[],_,P=>qXn P
 |(s,y)::W,O,P=>by
  rw[comW];split
  .exact (Ys base n F W _ _).trans (yA F O P _ y)
  .exact yA F O P _ y
theorem Qb(base n:Nat)(F:List Bk)(O:List (Nat×Bk))(P:List Int)(W:List (Nat×Bk)):(comR base n F O P W).1.P<:+P:=by
 have h1:=yW F O P;have h2:=(Ys base n (flushR F O P).F W (flushR F O P).O (flushR F O P).P).trans h1;unfold comR
 repeat' split
 .exact h1
 .exact h2
 .exact (yW _ _ _).trans h2
 .exact (yW _ _ _).trans h2
theorem CaS.dn_fb(a:CaS):CaS.Dn a a.fb:=⟨qXn _,yW _ _ _⟩
theorem CaS.dn_fd(a:CaS):CaS.Dn a a.fd:=⟨yW _ _ _,qXn _⟩
theorem CaS.dn_bw(a:CaS)(k:Nat)(x:Bk):CaS.Dn a (a.bdev (writeR a.bF a.bO a.bP k x)):=⟨qXn _,yA _ _ _ _ _⟩
theorem CaS.dn_ckpt(n:CaN)(a:CaS):CaS.Dn a (a.ckpt n).1:=by
 have h1:=a.dn_fb;have h2:=h1.trans a.fb.dn_fd;have h3:CaS.Dn a (a.fb.fd.dev (a.fb.fd.svR n)):=h2.trans ⟨Ue _ _ _ _,qXn _⟩;unfold CaS.ckpt
 repeat' split
 .exact h1
 .exact h2
 .exact h3
 .exact ⟨h3.d,h3.b⟩
theorem CaS.dn_roomed(n:CaN)(a:CaS):CaS.Dn a (a.roomed n).1:=by
 unfold CaS.roomed;split
 .exact CaS.Dn.refl a
 .exact a.dn_ckpt n
theorem CaS.dn_committed(n:CaN)(a:CaS):CaS.Dn a (a.committed n).1:=by
 have h1:=a.dn_fb;have h2:CaS.Dn a (a.fb.cm n):=h1.trans ⟨Qb _ _ _ _ _ _,qXn _⟩;unfold CaS.committed
 repeat' split
 .exact h1
 .exact h2
 .exact ⟨h2.d,h2.b⟩
theorem CaS.dn_evicts(n:CaN):∀(m g:Nat) (a:CaS),CaS.Dn a (CaS.evicts n m g a).1
 |0,_,a=>CaS.Dn.refl a
 |m+1,g,a=>by
  have h1:=a.dn_roomed n;have h2:CaS.Dn a (((a.roomed n).1.ev n).left n ((a.roomed n).1.evK n)):=⟨h1.d,h1.b⟩
  simp only[CaS.evicts]
  repeat' split
  .exact CaS.Dn.refl a
  .exact h1
  .exact ⟨h1.d,h1.b⟩
  .exact h2
  .exact h2.trans (CaS.dn_evicts n m (g+1) _)
theorem CaS.dn_takeR(n:CaN)(a:CaS)(s:Int):CaS.Dn a (a.takeR n s).1:=by
 have h1:=a.dn_roomed n;unfold CaS.takeR;split
 .exact h1
 .exact ⟨h1.d,h1.b⟩
theorem CaS.dn_al(a:CaS):CaS.Dn a a.al:=⟨qXn _,qXn _⟩
theorem CaS.dn_take2(n:CaN)(a:CaS):CaS.Dn a (a.take2 n).1:=by
 have h1:=a.dn_committed n;unfold CaS.take2 CaS.take3
 repeat' split
 .exact CaS.Dn.refl a
 .exact h1
 .exact h1.trans (CaS.dn_al _)
 .exact (h1.trans (CaS.dn_al _)).trans (CaS.dn_takeR n _ _)
theorem CaS.dn_takes(n:CaN)(a:CaS):CaS.Dn a (a.takes n).1:=by
 have h1:=CaS.dn_evicts n 1 0 a.al;unfold CaS.takes CaS.take1
 repeat' split
 .exact a.dn_al.trans (CaS.dn_takeR n _ _)
 .exact a.dn_al.trans h1
 .exact (a.dn_al.trans h1).trans (CaS.dn_take2 n _)
 .exact a.dn_al.trans (CaS.dn_take2 n _)
theorem CaS.dn_filled(n:CaN)(a:CaS)(s:Nat)(blk:Int)(x:Bk):CaS.Dn a (a.filled n s blk x).1:=by
 unfold CaS.filled;split
 .exact ⟨yA _ _ _ _ _,qXn _⟩
 .exact ⟨yA _ _ _ _ _,qXn _⟩
theorem CaS.dn_putted(n:CaN)(a:CaS)(k:Int)(s sum:Nat)(d:Bool):CaS.Dn a (a.putted n k s sum d).1:=by
 unfold CaS.putted;split
 .exact ⟨qXn _,qXn _⟩
 .exact ⟨qXn _,qXn _⟩
theorem CaS.dn_byp(n:CaN)(a:CaS)(k:Nat):CaS.Dn a (a.byp n k):=by
 unfold CaS.byp;split
 .exact ⟨qXn _,qXn _⟩
 .exact CaS.Dn.refl a
theorem CaS.dn_bypassed(n:CaN)(a:CaS)(k:Nat)(x:Bk):CaS.Dn a (a.bypassed n k x).1:=by
 have h1:=a.dn_roomed n;have h2:=h1.trans (CaS.dn_bw (a.roomed n).1 k x);unfold CaS.bypassed
 repeat' split
 .exact h1
 .exact h2
 .exact h2.trans (CaS.dn_byp n _ k)
theorem CaS.dn_backed(n:CaN)(a:CaS)(k:Nat)(x:Bk):CaS.Dn a (a.backed n k x).1:=by
 have h1:=a.dn_takes n;have h2:=h1.trans (CaS.dn_filled n (a.takes n).1 (a.takes n).2.1.toNat k x);unfold CaS.backed CaS.backS
 repeat' split
 .exact h1
 .exact h1.trans (CaS.dn_bypassed n _ k x)
 .exact h2
 .exact h2.trans (CaS.dn_putted n _ _ _ _ _)
theorem CaS.dn_thru(n:CaN)(a:CaS)(k:Nat)(x:Bk):CaS.Dn a (a.thru n k x).1:=by
 have h1:=a.dn_takes n;have h2:=h1.trans (CaS.dn_bw (a.takes n).1 k x);have h3:=h2.trans (CaS.dn_filled n ((a.takes n).1.bdev (writeR (a.takes n).1.bF (a.takes n).1.bO (a.takes n).1.bP k x)) (a.takes n).2.1.toNat k x);unfold CaS.thru CaS.thruS CaS.thruF
 repeat' split
 .exact h1
 .exact h1.trans (CaS.dn_bypassed n _ k x)
 .exact ⟨h2.d,h2.b⟩
 .exact h3.trans (CaS.dn_byp n _ k)
 .exact h3.trans (CaS.dn_putted n _ _ _ _ _)
theorem CaS.dn_wrote(n:CaN)(a:CaS)(k:Int)(x:Bk)(md:Int):CaS.Dn a (a.wrote n k x md).1:=by
 unfold CaS.wrote
 repeat' split
 .exact CaS.Dn.refl a
 .exact CaS.Dn.refl a
 .exact a.dn_backed n _ x
 .exact a.dn_thru n _ x
 .exact a.dn_bypassed n _ x
theorem CaS.dn_gone(n:CaN)(a:CaS)(k:Int):CaS.Dn a (a.gone n k).1:=by
 unfold CaS.gone;split
 .exact CaS.Dn.refl a
 .exact a.dn_bypassed n _ _
theorem CaS.dn_cleaned(n:CaN)(a:CaS)(k:Int):CaS.Dn a (a.cleaned n k).1:=by
 have h1:=a.dn_roomed n;unfold CaS.cleaned
 repeat' split
 .exact CaS.Dn.refl a
 .exact h1
 .exact ⟨h1.d,h1.b⟩
theorem CaS.readB_eq(n:CaN)(a:CaS)(k:Int):(a.readB n k).1=a\/(a.readB n k).1={a with bP:=a.bP.tail}\/(a.readB n k).1={a with dP:=a.dP.tail}:=by
 unfold CaS.readB CaS.readS;split
 .exact .inr (.inl rfl)
 split
 .exact .inl rfl
 split
 .exact .inr (.inr rfl)
 split
 .exact .inr (.inr rfl)
 .exact .inr (.inr rfl)
theorem CaS.dn_readB(n:CaN)(a:CaS)(k:Int):CaS.Dn a (a.readB n k).1:=by
 rcases a.readB_eq n k with h|h|h<;>rw[h]
 .exact CaS.Dn.refl a
 .exact ⟨qXn _,List.tail_suffix _⟩
 .exact ⟨List.tail_suffix _,qXn _⟩
theorem CaS.dn_back14(n:CaN)(a:CaS)(k:Int):CaS.Dn a (a.back14 n k).1:=by
 have h1:=a.dn_readB n k;have h2:=h1.trans (CaS.dn_bw (a.readB n k).1 k.toNat (a.readB n k).2.1);have h3:=h2.trans (CaS.dn_fb _);unfold CaS.back14 CaS.back14w CaS.back14f
 repeat' split
 .exact CaS.Dn.refl a
 .exact h1
 .exact h2
 .exact h3
 .exact h3.trans (CaS.dn_cleaned n _ k)
theorem CaS.dn_does14(n:CaN)(a:CaS)(dd blk:Int)(nv:Nat)(md:Int)(hd:dd≠7):CaS.Dn a (a.does14 n dd blk nv md).1:=by
 unfold CaS.does14
 repeat' split
 .exact a.dn_wrote n _ _ _
 .exact a.dn_gone n _
 .exact a.dn_readB n _
 .exact a.dn_committed n
 .exact a.dn_ckpt n
 .exact CaS.dn_evicts n _ _ a
 .exact a.dn_back14 n _
 .exact CaS.Dn.refl a
theorem CaS.Dn.noP(h:CaS.Dn a b)(hn:a.NoP):b.NoP:=by
 have h1:=h.d;have h2:=h.b;rw[hn.1]at h1;rw[hn.2]at h2;exact⟨List.suffix_nil.1 h1,List.suffix_nil.1 h2⟩
end
structure CaS.Gd(n:CaN)(a:CaS)(N:Nat):Prop where
 tie:a.Tie n none
 fit:a.Fit N
 pd:a.dP.length<=N
 pb:a.bP.length<=N
section
variable{n:CaN}{a b:CaS}{N:Nat}
theorem CaS.Gd.mono(h:a.Gd n N){M:Nat}(hM:N<=M):a.Gd n M:=⟨h.tie,h.fit.mono hM,qXx h.pd hM,qXx h.pb hM⟩
theorem CaS.Gd.to(h:a.Gd n N){M:Nat}(hM:N<=M)(d:CaS.Dn a b)(ht:b.Tie n none)(hf:b.Fit M):b.Gd n M:=⟨ht,hf,qXx d.d.length_le (qXx h.pd hM),qXx d.b.length_le (qXx h.pb hM)⟩
theorem CaS.Gd.readB(h:a.Gd n N)(k:Int):(a.readB n k).1.Gd n N:=by
 refine h.to (qXv _) (a.dn_readB n k) ?_ ?_
 .rcases a.readB_eq n k with e|e|e<;>rw[e]
  .exact h.tie
  .exact {h.tie with}
  .exact {h.tie with}
 .rcases a.readB_eq n k with e|e|e<;>rw[e]
  .exact h.fit
  .exact {h.fit with}
  .exact {h.fit with}
theorem CaS.Tie.back14(h:a.Gd n N)(k:Int):(a.back14 n k).1.Tie n none:=by
 have h1:=(h.readB k).tie;have h2:CaS.Tie n ((a.readB n k).1.bdev (writeR (a.readB n k).1.bF (a.readB n k).1.bO (a.readB n k).1.bP k.toNat (a.readB n k).2.1)).fb none:=h1;unfold CaS.back14 CaS.back14w CaS.back14f
 repeat' split
 .exact h.tie
 .exact h1
 .exact {h1 with}
 .exact {h1 with}
 .exact CaS.Tie.cleaned h2 k
theorem CaS.Fit.back14(h:a.Gd n N)(h1:1<=a.next)(k:Int):(a.back14 n k).1.Fit (N+n.pa+2):=by
 have f1:=(h.readB k).fit;have f2:=f1.bw k.toNat (a.readB n k).2.1;have f3:=f2.fb;have hn:(a.readB n k).1.next=a.next:=by rcases a.readB_eq n k with e|e|e<;>rw[e]
 unfold CaS.back14 CaS.back14w CaS.back14f
 repeat' split
 .exact h.fit.mono (by omega)
 .exact f1.mono (by omega)
 .exact f2.mono (by omega)
 .exact f3.mono (by omega)
 .exact (f3.cleaned (n:=n) (by show 1<=(a.readB n k).1.next;rw[hn];exact h1) k).mono (by omega)
theorem CaS.Gd.does14(h:a.Gd n N)(hg:a.Jg n)(h1:1<=a.next)(hj:4<=n.jo)(dd blk:Int)(nv:Nat)(md:Int):(a.does14 n dd blk nv md).1.Gd n (N+3*n.pa+n.jo+6):=by
 have hmm:nv%4*(n.pa+1)<=3*(n.pa+1):=qYb _ (by omega);unfold CaS.does14
 repeat' split
 .exact h.to (by omega) (a.dn_wrote n _ _ _) (h.tie.wrote h1 hj _ _ _) (h.fit.wrote hg h1 hj _ _ _)
 .exact h.to (by omega) (a.dn_gone n _) (h.tie.gone _) ((h.fit.gone h1 _).mono (by omega))
 .exact (h.readB blk).mono (by omega)
 .exact h.to (by omega) (a.dn_committed n) h.tie.committed ((h.fit.committed hg.len).mono (by omega))
 .exact h.to (by omega) (a.dn_ckpt n) h.tie.ckpt (h.fit.ckpt.mono (by omega))
 .exact h.to (by omega) (CaS.dn_evicts n _ _ a) (CaS.Tie.evicts _ 0 h.tie) ((CaS.Fit.evicts _ 0 h.fit h1).mono (by omega))
 .exact h.to (by omega) (a.dn_back14 n _) (CaS.Tie.back14 h _) ((CaS.Fit.back14 h h1 _).mono (by omega))
 .have hp:=h.pd;have hb:=h.pb;unfold CaS.plan14;split
  .exact ⟨{h.tie with},{h.fit.mono (show N<=N+3*n.pa+n.jo+6 by omega)with},by show(a.dP++_).length<=_;rw[qzd];simp;omega,by show a.bP.length<=_;omega⟩
  .exact ⟨{h.tie with},{h.fit.mono (show N<=N+3*n.pa+n.jo+6 by omega)with},by show a.dP.length<=_;omega,by show(a.bP++_).length<=_;rw[qzd];simp;omega⟩
 .exact h.mono (by omega)
end
theorem xB{x:Bk}(hx:x.length=64){p s:Nat}(h:p+s<=60):((sealB x).drop p).take s=(x.drop p).take s:=by
 apply List.ext_getElem?
 intro i;by_cases hi:i<s
 .rw [List.getElem?_take_of_lt hi,List.getElem?_take_of_lt hi,qym,qym];unfold sealB;rw[qyi (by simp;omega),List.getElem?_take_of_lt (by omega)]
 .rw [List.getElem?_take_eq_none (by omega),List.getElem?_take_eq_none (by omega)]
theorem ve{pre mid post:List UInt8}:((padB (pre++mid++post)).drop pre.length).take mid.length=mid:=by
 unfold padB;rw[qxx,qxx,List.drop_left' rfl,List.take_left' rfl]
theorem Yt(l:List (Nat×Nat)):∀(pre:List UInt8),pre.length+sizes l<=60->(∀p∈l,p.1<256^p.2)->numsAt (sealB (padB (pre++encB l))) pre.length (l.map (·.2))=l.map (·.1):=by
 induction l with
 |nil=>intro pre _ _;rfl
 |cons p l ih=>
  intro pre hp hf;have hsz:sizes (p::l)=p.2+sizes l:=by simp[sizes]
  have he:encB (p::l)=lowB p.1 p.2++encB l:=by simp[encB]
  simp only[qzm,numsAt,List.cons.injEq];constructor
  .rw [xB (ww (by rw[qzd,xQ];omega)) (by omega),he,<-qxx];have:=ve (pre:=pre) (mid:=lowB p.1 p.2) (post:=encB l);rw[zU]at this;rw[this];exact ZM _ _ (hf p (by simp))
  .have:=ih (pre++lowB p.1 p.2) (by rw[qzd,zU];omega) (fun q hq=>hf q (by simp[hq]));rw[qzd,zU,qxx]at this;rw[he];exact this
theorem Sy{k:Nat}(hk:k<256){l:List (Nat×Nat)}(hl:sR l)(mb:Bool):okGet (sectB k l) k (l.map (·.2)) mb=mb/\numsAt (sectB k l) 1 (l.map (·.2))=l.map (·.1):=by
 have hpl:=vQ (k:=k) hl.2;have hsz:(l.map (·.2)).sum=sizes l:=rfl;have hbl:(lowB k 1++encB l).length=1+sizes l:=by rw[qzd,zU,xQ]
 have h1:sealB (sectB k l)=sectB k l:=Xf hpl;have h2:numB ((sectB k l).take 1)=k:=by
  have:=xB hpl (p:=0) (s:=1) (by omega);rw[qyc,qyc]at this;have h3:=ve (pre:=[]) (mid:=lowB k 1) (post:=encB l);rw[zU,qzz,qzh,qyc]at h3;unfold sectB;rw[this,h3];exact ZM _ _ (by omega)
 have h3:endB (sectB k l) (1+sizes l)=true:=by
  unfold endB sectB;rw[xB hpl (by have:=hl.2;omega)];unfold padB;rw[<-hbl,List.drop_left' rfl,qxw];intro x hx;have:=List.mem_of_mem_take hx;rw[List.mem_replicate]at this;simpa using this.2
 refine⟨?_,?_⟩
 .unfold okGet;rw[hsz,h1,h2,h3];simp
 .have:=Yt l (lowB k 1) (by rw[zU];have:=hl.2;omega) (fun p hp=>(hl.1 p hp).1);rw[zU]at this;exact this
theorem XI:(Tryz.prog.info? 159).map (·.size)=some 6:=by kernel_rfl
structure LogI(w:World)(l b base n fi:Nat):Prop where
 str:w.heap[l]?=some (.cells #[.pointer (some ⟨b,0,none⟩),.int .i64 (base:Int),.int .i64 (n:Int),.func (.func 138) #[] #[],.func (.func 139) #[] #[],.func (.func fi) #[] #[]] 254 (0,0))
theorem LogI.lt{w:World}{l b base n fi:Nat}(h:LogI w l b base n fi):l<w.heap.size:=zd h.str
theorem LogI.keep{w w':World}{l b base n fi:Nat}(h:LogI w l b base n fi){S:Nat->Prop}(hu:Upd S w w')(hs:¬S l):LogI w' l b base n fi:=⟨(hu.block l h.lt hs).trans h.str⟩
theorem LogI.c{w:World}{l b base n fi:Nat}(h:LogI w l b base n fi):w.cell? ⟨l,0,none⟩=some (.pointer (some ⟨b,0,none⟩))/\w.cell? ⟨l,1,none⟩=some (.int .i64 (base:Int))/\w.cell? ⟨l,2,none⟩=some (.int .i64 (n:Int))/\
  w.cell? ⟨l,3,none⟩=some (.func (.func 138) #[] #[])/\w.cell? ⟨l,4,none⟩=some (.func (.func 139) #[] #[])/\w.cell? ⟨l,5,none⟩=some (.func (.func fi) #[] #[]):=
 ⟨za h.str 0,za h.str 1,za h.str 2,za h.str 3,za h.str 4,za h.str 5⟩
theorem wn(T:TypeId)(a b c)(h:Tryz.prog.underlying T=some (.func a b c))(w:World)(fn:Fn)(xs ys:Array Value):(binOp .eql T (.func fn xs ys) .nilFunc).run Tryz.prog w=.ok (.bool false) w:=by
 have:∀d,(Op.equalIn (d+1) T (.func fn xs ys) .nilFunc).run Tryz.prog w=.ok false w:=fun d=>by simp[Op.equalIn,run_underlying h]
 simp only[binOp];simp[Op.equal,Op.maxDepth,this 9999]
theorem Sz{S:Nat->Prop}{w:World}{b:Nat}{F:List Bk}{O:List (Nat×Bk)}{P:List Int}(h:Dv S w b F O P)(base n:Nat)(hn:1<=n)(hbn:base+n<=F.length)(fi:Nat):
  Calls Tryz.prog 137 #[.pointer (some ⟨b,0,none⟩),.int .i64 (base:Int),.int .i64 (n:Int),.func (.func 138) #[] #[],.func (.func 139) #[] #[],.func (.func fi) #[] #[]] w
   fun e w'=>e=.returned (.tuple #[.pointer (some ⟨w.heap.size,0,none⟩),.int .i64 0])/\LogI w' w.heap.size b base n fi/\Below w.heap.size w w':=by
 have hfl:=h.good.fl;have e1:=wn 235 _ _ _ Tryz.underlying235;have e2:=wn 236 _ _ _ Tryz.underlying236;have e3:=wn 237 _ _ _ Tryz.underlying237;have q1:decide ((base:Int)<0)=false:=by simp
 have q2:decide ((n:Int)<1)=false:=by simp;omega
 have q3:decide ((F.length:Int)<(base:Int))=false:=by simp;omega
 have q4:decide ((F.length:Int)-(base:Int)<(n:Int))=false:=by simp;omega
 have H:=qqh h;clear h;go_enter Tryz.func137,Tryz.ntmps137
 go_wp2_with (first|(go_at_call 47;refine(wW H.o).mono ?_;rintro e w' ⟨rfl,rfl⟩))
 go_ret2
 exact⟨rfl,⟨zc _ _ rfl⟩,(qxl _ _).alloc (qXv _) _⟩
structure LogC(w:World)(l b base n fi:Nat):Prop where
 str:w.heap[l]?=some (.cells #[.pointer (some ⟨b,0,none⟩),.int .i64 (base:Int),.int .i64 (n:Int),.func (.func 142) #[] #[],.func (.func 143) #[] #[],.func (.func fi) #[] #[]] 258 (0,0))
theorem LogC.lt{w:World}{l b base n fi:Nat}(h:LogC w l b base n fi):l<w.heap.size:=zd h.str
theorem LogC.keep{w w':World}{l b base n fi:Nat}(h:LogC w l b base n fi){S:Nat->Prop}(hu:Upd S w w')(hs:¬S l):LogC w' l b base n fi:=⟨(hu.block l h.lt hs).trans h.str⟩
theorem LogC.c{w:World}{l b base n fi:Nat}(h:LogC w l b base n fi):w.cell? ⟨l,0,none⟩=some (.pointer (some ⟨b,0,none⟩))/\w.cell? ⟨l,1,none⟩=some (.int .i64 (base:Int))/\w.cell? ⟨l,2,none⟩=some (.int .i64 (n:Int))/\
  w.cell? ⟨l,3,none⟩=some (.func (.func 142) #[] #[])/\w.cell? ⟨l,4,none⟩=some (.func (.func 143) #[] #[])/\w.cell? ⟨l,5,none⟩=some (.func (.func fi) #[] #[]):=
 ⟨za h.str 0,za h.str 1,za h.str 2,za h.str 3,za h.str 4,za h.str 5⟩
theorem SA{S:Nat->Prop}{w:World}{b:Nat}{F:List Bk}{O:List (Nat×Bk)}{P:List Int}(h:Dv S w b F O P)(base n:Nat)(hn:1<=n)(hbn:base+n<=F.length)(fi:Nat):
  Calls Tryz.prog 141 #[.pointer (some ⟨b,0,none⟩),.int .i64 (base:Int),.int .i64 (n:Int),.func (.func 142) #[] #[],.func (.func 143) #[] #[],.func (.func fi) #[] #[]] w
   fun e w'=>e=.returned (.tuple #[.pointer (some ⟨w.heap.size,0,none⟩),.int .i64 0])/\LogC w' w.heap.size b base n fi/\Below w.heap.size w w':=by
 have hfl:=h.good.fl;have e1:=wn 240 _ _ _ Tryz.underlying240;have e2:=wn 241 _ _ _ Tryz.underlying241;have e3:=wn 242 _ _ _ Tryz.underlying242;have q1:decide ((base:Int)<0)=false:=by simp
 have q2:decide ((n:Int)<1)=false:=by simp;omega
 have q3:decide ((F.length:Int)<(base:Int))=false:=by simp;omega
 have q4:decide ((F.length:Int)-(base:Int)<(n:Int))=false:=by simp;omega
 have H:=qqh h;clear h;go_enter Tryz.func141,Tryz.ntmps141
 go_wp2_with (first|(go_at_call 47;refine(wW H.o).mono ?_;rintro e w' ⟨rfl,rfl⟩))
 go_ret2
 exact⟨rfl,⟨zc _ _ rfl⟩,(qxl _ _).alloc (qXv _) _⟩
end Go.Proofs.YtfhfbpmlnjdfoaaGreatDoor
