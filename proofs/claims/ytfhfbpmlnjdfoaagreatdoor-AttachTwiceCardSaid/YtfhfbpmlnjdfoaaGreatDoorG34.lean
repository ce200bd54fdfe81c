/- A cache: Clean -/
import Derived.Test.YtfhfbpmlnjdfoaaGreatDoorG33
set_option maxRecDepth 100000
set_option maxHeartbeats 2000000
namespace Go.Proofs.YtfhfbpmlnjdfoaaGreatDoor
open Go Go.RowKit Tryz
section
variable{own:Nat->Nat}{w w':World}{c:Nat}{n:CaN}{p:CaP}{a:CaS}{N:Nat}
theorem Eh(h:CaAt own w c n p a)(hf:a.Fit N)(hN:N<=50000)(ht:a.Tie n none)(k:Int):
  Calls prog 168 #[ptr c,.int .i64 k] w (zu own w c n p (a.jv n k).1 (.int .i64 (a.jv n k).2)):=by
 have HG:=qqh (qW h k);obtain⟨-,-,-,-,d4,-,-,-,-⟩:=h.cells;obtain⟨R,hR⟩:=qqe (a.jv n k);rw[<-hR];unfold CaS.jv at hR;have H:=Y4 h hf hN ht;clear h hf hN ht;obtain⟨pv,hpv⟩:=qqe (getV a.ps k);rw[<-hpv]at HG hR;obtain⟨cd,hcd⟩:=qqe (getC a.ps k);rw[<-hcd]at HG hR;obtain⟨s,d⟩:=pv;replace hR:=qqh hR;replace hpv:=qqh hpv;replace hcd:=qqh hcd;go_enter func168,ntmps168
 go_wp2_with fail
 refine HG.o.mono ?_;rintro e w1 ⟨rfl,own1,h1,hd1⟩;obtain⟨w2,hw2⟩:=qqe (w1.alloc (.cells #[.int .i64 s,.bool d] 95));have hu2:=qqu hw2;have hg2:=qqg hw2;obtain⟨m,hm⟩:=qqe (w1.heap.size);have hm0:own1 m=0:=h1.far _ (by omega);rw[<-hm]at hg2;have h2:=h1.new hu2;have d2:=hd1.trans (h1.ji hu2);have H2:=Y4 h2 d2 hg2 hm0;have HM:=Y2 hm hw2;clear h1 hd1 hu2 hg2 hm0 h2 d2 HG d4 hm hw2;by_cases hc:cd=0
 rotate_left
 .have q0:(cd==0)=false:=by simpa using hc
  go_wp2
  rw[<-HM.o.2];go_ret
  have hr:=hR.out;rw[if_pos hc]at hr;rw[hr];exact⟨rfl,own1,H2.o.1,H2.o.2.1⟩
 subst hc;have hr:=hR.out;rw[if_neg (fun e=>e rfl)]at hr;replace hR:=qqh hr;clear hr;have HC:=qqh (vt H2.o.1 H.o.2.1 H.o.2.2.1);have hrs:=a.jf n;have hsm:=(a.same_roomed n).sums;have hrr:(a.je n).2=0->(a.je n).1.next+1<=(a.je n).1.cov+n.jo:=fun e=>CaS.jA e H.o.1.nx1 H.o.1.ok.j1;generalize a.je n=r at*;obtain⟨b,cr⟩:=r;simp only at hrs hsm hrr;have HX:=Y3 hrs hsm hrr;clear hrs hsm hrr;replace HC:Hid (Calls prog 164 #[ptr c] w2 (zu own1 w2 c n p b (.int .i64 cr))):=HC;go_wp2_with fail
 rw[<-HM.o.2,<-HM.o.1];refine HC.o.mono ?_;rintro e w3 ⟨rfl,own3,h3,d3⟩;by_cases hc:cr=0
 rotate_left
 .have q0:(cr==0)=false:=by simpa using hc
  have H3:=Y2 h3 (H2.o.2.1.trans d3);have hr:=hR.out;replace hr:R=if cr≠0 then(b,cr)else _:=hr
  rw[if_pos hc]at hr;clear h3 d3 HC HX;go_wp2
  go_ret
  rw[hr];exact⟨rfl,own3,H3.o.1,H3.o.2⟩
 subst hc;have hr:=hR.out;replace hr:R=if(0:Int)≠0 then(b,0)else({b.noted n 0 k s false (((a.sums k).getD 0:Nat):Int)with ps:=cleanL a.ps k},0):=hr
 rw[if_neg (fun e=>e rfl)]at hr;obtain⟨⟨hnx,hps⟩,hsm,hroom⟩:=HX.o;replace hroom:=hroom rfl;obtain⟨q,hq,rfl,hqn⟩:=zR.1 (show getC a.ps k=0 from hcd.out.symm);have hqb:q<n.bl:=by rw[<-H.o.1.pl];exact hq
 obtain⟨sn,hsn,hse,-⟩:=TieL.slot H.o.2.2.2 hqb hqn;have hss:s=(sn:Int):=by
  have:=congrArg Prod.fst hpv.out;rw[yK hq hqn,hse]at this;exact this
 subst hss;obtain⟨sum,hsum⟩:=qqe ((a.sums (q:Int)).getD 0);rw[<-hsum]at hr;have hsl:sum<=4294967295:=by
  rw[hsum];cases hv:a.sums (q:Int)with
  |none=>simp
  |some v=>simpa using H.o.2.1.sm _ _ hv
 have hb2:=h3.ok.b2;have hs2:=h3.ok.s2;have hmay:mayR (jaddX b.next n.jo 0 (q:Int) (sn:Int) false (sum:Int))=true:=by
  have h0:=h3.nx1;have h1:=H.o.2.1.nx;have h2:=H.o.2.2.1;have h4:=h3.ok.j1;exact wU (s:=sn) false h0 (by omega) (by omega) ⟨by omega,by omega⟩ (by omega) hsl
 obtain⟨-,-,-,d3c,-,-,-,-,d8⟩:=h3.cells;have hq1: -9223372036854775808<=(q:Int):=by omega
 have hq2:(q:Int)<9223372036854775808:=by omega
 have hg3:=(d3.upd.block _ (zf H2.o.2.2.1) (fun hs=>hs.1 H2.o.2.2.2)).trans H2.o.2.2.1;have hud3:=(uur (fun _=>False) w3).drew;have hL:∀X,Upd (fun _=>False) w3 X->(Instr.lookup 116 (.map (some p.sm)) (.int .i64 (q:Int)) false).run prog X=.ok (.int .i64 (sum:Int)) X:=fun X hX=>by
  rw[hsum,<-hsm];exact(h3.new hX).sm.1.look1 hq1 hq2
 obtain⟨w4,hw4⟩:=qqe ((w3.alloc (.cells (recC 0 0 0 0 0 false 0).toArray 101)).drew);have hu4:Upd (fun _=>False) w3 w4:=by rw[hw4];exact((uur _ w3).alloc _).drew
 obtain⟨g,hg⟩:=qqe (w3.heap.size);have hg4:w4.heap[g]?=some (.cells (recC 0 0 0 0 0 false 0).toArray 101 (0,0)):=by rw[hw4,hg];exact zc w3 _ rfl
 have hg0:own3 g=0:=h3.far _ (by omega);have h4:=h3.new hu4;have d4:=d3.trans (h3.ji hu4);have hth:w4.there g 0 7:=fun j hj=>by
  rw[za hg4,zg hg4,qYe];exact⟨by rw[qxe (by simpa using hj)];rfl,rfl⟩
 obtain⟨w5,hw5⟩:=qqe (w4.setCells g 0 (recC 0 0 0 (q:Int) (sn:Int) false (sum:Int)));have hus:=zq w4 g 0 (recC 0 0 0 (q:Int) (sn:Int) false (sum:Int));rw[<-hw5]at hus;have hrow:CaAt own3 w5 c n p b/\Did own1 own3 w2 w5:=by
  rw[hw5];have hn1:=h3.nib.lt;have hn2:=h3.tur.lt;refine⟨h4.jt (zq _ _ _ _) (fun j e=>by subst e;exact⟨hg0,by omega,by omega⟩),⟨d4.upd.new (zq _ _ _ _) (fun i hi e=>?_),d4.old,d4.new,fun j hj=>d4.far j (by have:=(zq w4 g 0 (recC 0 0 0 (q:Int) (sn:Int) false (sum:Int))).size;omega)⟩⟩;have:=d3.upd.size;omega
 have r5:w5.rangeAt g 0 (recC 0 0 0 (q:Int) (sn:Int) false (sum:Int)):=by rw[hw5];exact qYr _ _ _ _ hth
 have hut:=underlying101;have hsi:=infoThR;have hgc:¬g=c:=fun e=>by have:=h3.clt;omega
 have hgm:¬g=m:=fun e=>by have:=zf hg3;omega
 have c1:=za (hud3.jc hg3) 0;have c2:=za (hu4.jc hg3) 0;simp at c1 c2;have H4:=Y8 hrow r5 hroom hmay hr hnx hps hg0;have HS1:Hid (w3.drew.cell? ⟨m,0,none⟩=some (.int .i64 (sn:Int))/\w3.drew.cell? ⟨c,22,none⟩=some (.map (some p.sm))/\(Instr.lookup 116 (.map (some p.sm)) (.int .i64 (q:Int)) false).run prog w3.drew=.ok (.int .i64 (sum:Int)) w3.drew):=⟨c1,(h3.new hud3).cells.2.2.2.2.2.2.2.2,hL _ hud3⟩
 have HS2:Hid (w4.cell? ⟨m,0,none⟩=some (.int .i64 (sn:Int))/\w4.cell? ⟨c,22,none⟩=some (.map (some p.sm))/\(Instr.lookup 116 (.map (some p.sm)) (.int .i64 (q:Int)) false).run prog w4=.ok (.int .i64 (sum:Int)) w4):=⟨c2,h4.cells.2.2.2.2.2.2.2.2,hL _ hu4⟩
 have HS3:Hid (w5.cell? ⟨m,0,none⟩=some (.int .i64 (sn:Int))/\w5.cell? ⟨c,22,none⟩=some (.map (some p.sm))/\(Instr.lookup 116 (.map (some p.sm)) (.int .i64 (q:Int)) false).run prog w5=.ok (.int .i64 (sum:Int)) w5):=⟨hus.ja c2 (fun e=>hgm e.symm),hrow.1.cells.2.2.2.2.2.2.2.2,by rw[hsum,<-hsm];exact hrow.1.sm.1.look1 hq1 hq2⟩
 have HW:=Y3 hw4 hw5 hg;have HT:=qqh hth;clear h3 d3 hg3 hu4 hg4 hg0 h4 d4 hth hus hrow r5 hroom hmay hr hnx hps hsm hw4 hw5 hgc hgm hud3 hL hsum hsl hb2 hs2 hq1 hq2 c1 c2 d3c d8 hq hqn hqb hsn hse HC HX;go_upto_region 9 with fail
 go_cut [8] (fun s8 wx=>s8=.pointer (some ⟨g,0,none⟩)/\wx=w5)
 case first=>
  refine qZj (S:=fun W=>W.cell? ⟨m,0,none⟩=some (.int .i64 (sn:Int))/\W.cell? ⟨c,22,none⟩=some (.map (some p.sm))/\(Instr.lookup 116 (.map (some p.sm)) (.int .i64 (q:Int)) false).run prog W=.ok (.int .i64 (sum:Int)) W) (by kernel_rfl) (HS1.o) (fun hHeld=>?_);refine Wl.i [0,1,2,3,4,5,6,7,8] ?_;iterate 9 refine Wl.t hHeld ?_
  refine Wl.o ?_;refine qZe (rs:=[9,10]) (by kernel_rfl) (by simp) ?_;refine qxb rfl (fun K hK=>?_) (qxb rfl (fun K hK=>?_) qxc)
  .go_simp
   refine hK.o _ _ (HS1.o) (fun _=>?_);clear hK K;refine Wl.r 10 (fun K hK=>?_);go_simp
   rw[<-HW.o.2.2,show(w3.alloc (.cells #[.int .i64 0,.int .i64 0,.int .i64 0,.int .i64 0,.int .i64 0,.bool false,.int .i64 0] 101)).drew=w4 from HW.o.1.symm];refine hK.o _ _ (HS2.o) (fun _=>?_);clear hK K
   try rw[<-HW.o.2.2]
   refine Wl.r 11 (fun K hK=>?_);rw[if_pos (by rfl)];refine qZk _ _ _ rfl _ _ (recC 0 0 0 (q:Int) (sn:Int) false (sum:Int)).toArray rfl rfl HT.o hsi (qYu (by intro v hv;simp at hv;rcases hv with rfl|rfl|rfl|rfl|rfl|rfl|rfl<;>rfl)) ?_;simp only[Act.put,qXi];rw[<-HW.o.2.1];refine hK.o _ _ (HS3.o) (fun _=>?_);clear hK K;refine Wl.d ?_;go_wp2_with fail
   go_meet
   case rel=>exact⟨rfl,rfl⟩
  .go_simp
   rw[<-HW.o.2.2,show(w3.alloc (.cells #[.int .i64 0,.int .i64 0,.int .i64 0,.int .i64 0,.int .i64 0,.bool false,.int .i64 0] 101)).drew=w4 from HW.o.1.symm];refine hK.o _ _ (HS2.o) (fun _=>?_);clear hK K;refine Wl.r 9 (fun K hK=>?_);go_simp
   refine hK.o _ _ (HS2.o) (fun _=>?_);clear hK K
   try rw[<-HW.o.2.2]
   refine Wl.r 11 (fun K hK=>?_);rw[if_pos (by rfl)];refine qZk _ _ _ rfl _ _ (recC 0 0 0 (q:Int) (sn:Int) false (sum:Int)).toArray rfl rfl HT.o hsi (qYu (by intro v hv;simp at hv;rcases hv with rfl|rfl|rfl|rfl|rfl|rfl|rfl<;>rfl)) ?_;simp only[Act.put,qXi];rw[<-HW.o.2.1];refine hK.o _ _ (HS3.o) (fun _=>?_);clear hK K;refine Wl.d ?_;go_wp2_with fail
   go_meet
   case rel=>exact⟨rfl,rfl⟩
 case rest=>
  obtain⟨rfl,rfl⟩:=hcut;obtain⟨⟨h5,d5⟩,r5,hroom,hmay,hr,hnx,hps,hg0⟩:=H4.o;have hud:=(uur (fun _=>False) wc).drew;have hbn:b.next<=50000:=by have h1:=H.o.2.1.nx;have h2:=H.o.2.2.1;omega
  have HJ:=qqh (ZN (h5.new hud) (by omega) (by omega) 0 0 0 (q:Int) (sn:Int) false (sum:Int) hmay);obtain⟨-,-,-,d3c,-,-,-,-,-⟩:=h5.cells;have D5:=qqh (H2.o.2.1.trans (d5.trans (h5.ji hud)));clear h5 d5 hud HS1 HS2 HS3 HT HW;go_upto_region 10 with fail
  refine qZj (S:=fun W=>W.cell? ⟨c,17,none⟩=some (ptr p.jr)/\W.rangeAt g 0 (recC 0 0 0 (q:Int) (sn:Int) false (sum:Int))) (by kernel_rfl) (by(simp only[qYo,qYq]);exact⟨d3c,r5⟩) (fun hHeld=>?_);refine Wl.i [0,1,2,3] ?_;iterate 4 refine Wl.t hHeld ?_
  refine Wl.o ?_;refine Wl.l 4 (fun w h=>h.2) hut hsi hHeld ?_;refine Wl.r 5 (fun K hK=>?_);go_simp
  refine HJ.o.mono ?_;rintro e w6 ⟨rfl,own6,h6,d6⟩;obtain⟨-,-,-,i3,i4,-,-,-,-⟩:=h6.cells;have r6:=d6.upd.range (show wc.drew.rangeAt g 0 (recC 0 0 0 (q:Int) (sn:Int) false (sum:Int)) by rw[qYq];exact r5) (fun h=>h.1 hg0);have HP:=qqh (Rh h6 (q:Int));have H6:=qqh (D5.out.trans d6);clear h6 d6 r5 d3c HJ;refine hK.o _ _ (⟨i3,r6⟩) (fun hH1=>?_);clear hK K;refine Wl.i [6,7,8] ?_;iterate 3 refine Wl.t hH1 ?_
  refine Wl.o ?_;refine Wl.r 9 (fun K hK=>?_);go_simp
  refine hK.o _ _ (hH1) (fun hH2=>?_);clear hK K;refine Wl.r 10 (fun K hK=>?_);go_simp
  refine hK.o _ _ (hH2) (fun hH3=>?_);clear hK K;refine Wl.d ?_;have hc1:getC a.ps (q:Int)=0:=hcd.out.symm;have HR:=qqh hr;replace HP:Hid (Calls prog 241 #[ptr p.ix,.int .i64 (q:Int)] w6 (zu own6 w6 c n p {b.noted n 0 (q:Int) (sn:Int) false (sum:Int)with ps:=cleanL b.ps (q:Int)} (.int .i64 (getC b.ps (q:Int))))):=HP;rw[hps,hc1]at HP;clear hHeld hH1 hH2 hH3 hr hps hc1 hut hsi hroom hmay hnx r6 i3 hg0;go_wp2_with fail
  refine HP.o.mono ?_;rintro e w7 ⟨rfl,own7,h7,d7⟩;go_wp2
  go_ret
  rw[HR.o];exact⟨rfl,own7,h7,H6.o.trans d7⟩
end
def fillB(v:Nat):Bk:=List.replicate 64 (UInt8.ofNat v)
def xM(v i:Nat):Bk:=List.replicate i (UInt8.ofNat v)++List.replicate (64-i) 0
theorem WR{v i:Nat}(h:i<=64):(xM v i).length=64:=by simp[xM];omega
theorem WS{v i:Nat}(h:i<64):(xM v i).set i (UInt8.ofNat v)=xM v (i+1):=by
 unfold xM;rw[qXj _ _ (by simp),qzi,Nat.sub_self];obtain⟨k,hk⟩:∃k,64-i=k+1:=⟨63-i,by omega⟩
 rw[hk,List.replicate_succ,qXl,show 64-(i+1)=k by omega,List.replicate_succ',qxx];rfl
theorem vz(v:Nat):(fillB v).length=64:=by simp[fillB]
theorem WT(v:Nat):xM v 64=fillB v:=by simp[xM,fillB]
theorem Xx:xM 0 0=fillB 0:=rfl
theorem RW(l:Bk)(i:Nat)(v:Nat)(hv:v<=255):(bkC l).toArray.setIfInBounds i (.int .u8 (v:Int))=(bkC (l.set i (UInt8.ofNat v))).toArray:=by
 have:Go.Extern.Stop.cell (UInt8.ofNat v)=.int .u8 (v:Int):=by
  simp only[Go.Extern.Stop.cell]
  congr 1
  simp[UInt8.toNat_ofNat'];omega
 rw[<-this];apply Array.toList_inj.1;simp[bkC,List.map_set]
theorem Xy(v:Nat)(hv:v<=255)(w:World):Calls prog 86 #[.int .i64 (v:Int)] w fun e w'=>e=.returned (.agg (bkC (fillB v)).toArray)/\Below w.heap.size w w':=by
 obtain⟨Z,hZ⟩:=qqe (zB);have hZl:Z.length=64:=by rw[hZ];rfl
 have HZ:=Y2 hZ (vN Z hZ);clear hZ;obtain⟨w1,hw1⟩:=qqe ((w.alloc (.cells (bkC Z).toArray 54)).alloc (.cells (bkC Z).toArray 54));have g0:w1.heap[w.heap.size]?=some (.cells (bkC Z).toArray 54 (0,0)):=by rw[hw1];exact(qxk _ _ _ (by simp)).trans (zc w _ rfl)
 have g1:w1.heap[w.heap.size+1]?=some (.cells (bkC Z).toArray 54 (0,0)):=by rw[hw1];exact zc _ _ (by simp)
 have hb1:Below w.heap.size w w1:=by rw[hw1];exact((qxl _ w).alloc (qXv _) _).alloc (by simp) _
 have H:=Y3 g0 g1 hb1;have HW:=qqh hw1;clear g0 g1 hb1 hw1;go_enter func86,ntmps86
 go_wp2_with (first
  |(refine zZ rfl _ rfl _ HZ.o.2 ?_)
  |fail)
 rw[<-HW.o];have hlt:w.heap.size+1<w1.heap.size:=zf H.o.2.1;go_loopw[4] (fun i wr=>∃k:Nat,k<=64/\i=.int .i64 (k:Int)/\(v=0->k=0)/\wr.heap[w.heap.size+1]?=some (.cells (bkC (xM v k)).toArray 54 (0,0))/\Upd (fun j=>j=w.heap.size+1) w1 wr)
  (fun i _=>64-(intOf i).toNat)
 case atStart=>
  refine⟨0,by omega,rfl,fun _=>rfl,?_,uur _ _⟩;rw[H.o.2.1,HZ.o.1];rfl
 case round=>
  obtain⟨k,hk,rfl,hk0,hg,hu⟩:=hrel;by_cases hlt2:k<64
  .by_cases hv0:v=0
   .have q0:((v:Int)==0)=true:=by simpa using hv0
    have q1:((v:Int) !=0)=false:=by simpa using hv0
    have hk1:=hk0 hv0;subst hk1;rw[hv0,Xx]at hg;have hu2:Below w.heap.size w wr:=zl H.o.2.2 hu (qXv _) (fun k h=>by omega);have g0:=(hu.block w.heap.size (by omega) (by omega)).trans H.o.1;have hth:=yY g0 (by rw[zn];exact hZl);obtain⟨y,hy⟩:=qqe (fillB 0);rw[<-hy]at hg;have hyl:y.length=64:=by rw[hy];exact vz 0
    have r1:=zh hg;have HX:=Y2 (show y=fillB v by rw[hv0];exact hy) hu2;clear hy hg hu hu2 g0 hk0 hv0 hk;go_wp2_with (first
     |(refine qZg rfl _ _ rfl _ _ rfl _ _ r1 underlying54 rfl (zw y hyl) ?_)
     |(refine qZi rfl _ _ _ rfl _ _ (bkC y).toArray rfl rfl (by rw[zo _ hyl];exact hth) (by rw[zo _ hyl];exact zM) (qYu (zv _)) ?_)
     |fail)
    refine qYw (zN rfl _ _ w.heap.size 0 (bkC y) _ rfl (qYr _ _ _ _ (by rw[zn,hyl];exact hth)) underlying54 rfl (zw y hyl)) rfl ?_;rw[<-HX.o.1];exact⟨rfl,zl HX.o.2 (zq _ _ _ _) (qXv _) (fun k h=>by omega)⟩
   .have q0:((v:Int)==0)=false:=by simpa using hv0
    have q1:((v:Int) !=0)=true:=by simpa using hv0
    have c1:=za hg k;have f1:=zg hg k;have hcs:∃u,(bkC (xM v k)).toArray[k]?=some u:=by
     rw[qxe (by rw[qXm,zn,WR (by omega)];exact hlt2)];exact⟨_,rfl⟩
    obtain⟨u,hu0⟩:=hcs;rw[hu0]at c1;have hS:=zi hg k (.int .u8 (v:Int));rw[RW _ _ _ hv,WS hlt2]at hS;have hU:=hu.trans (zj wr (w.heap.size+1) k (.int .u8 (v:Int)));have HS:=Y2 hS hU;have k0:(0:Int)<=(k:Int):=by omega
    have k1:(k:Int)<64:=by omega
    have v1:(v:Int)<256:=by omega
    have hv1:=qqh hv0;clear hS hU hg hu hu0 hk0 hv0;go_wp2
    go_roundw
    case rel=>exact⟨k+1,by omega,by go_num,fun e=>absurd e hv1.out,HS.o.1,HS.o.2⟩
    case measure=>simp[intOf];omega
  .obtain rfl:k=64:=by omega
   have hu2:Below w.heap.size w wr:=zl H.o.2.2 hu (qXv _) (fun k h=>by omega);have g0:=(hu.block w.heap.size (by omega) (by omega)).trans H.o.1;have hth:=yY g0 (by rw[zn];exact hZl);rw[WT]at hg;obtain⟨y,hy⟩:=qqe (fillB v);rw[<-hy]at hg;have hyl:y.length=64:=by rw[hy];exact vz v
   have r1:=zh hg;have HX:=Y2 hy hu2;clear hy hg hu hu2 g0 hk0 hk;go_wp2_with (first
    |(refine qZg rfl _ _ rfl _ _ rfl _ _ r1 underlying54 rfl (zw y hyl) ?_)
    |(refine qZi rfl _ _ _ rfl _ _ (bkC y).toArray rfl rfl (by rw[zo _ hyl];exact hth) (by rw[zo _ hyl];exact zM) (qYu (zv _)) ?_)
    |fail)
   refine qYw (zN rfl _ _ w.heap.size 0 (bkC y) _ rfl (qYr _ _ _ _ (by rw[zn,hyl];exact hth)) underlying54 rfl (zw y hyl)) rfl ?_;rw[<-HX.o.1];exact⟨rfl,zl HX.o.2 (zq _ _ _ _) (qXv _) (fun k h=>by omega)⟩
def smN(bl sl jo:Nat):CaN:=⟨7,bl,sl,jo,(sl-1)/4+1,2,3⟩
theorem Zb(bl sl jo:Nat)(hs1:1<=sl)(hs2:sl<=100)(w:World):Calls prog 29 #[.int .i64 (bl:Int),.int .i64 (sl:Int),.int .i64 (jo:Int)] w fun e w'=>e=.returned (.agg (smN bl sl jo).C.toArray)/\Below w.heap.size w w':=by
 obtain⟨pa,hpa⟩:=qqe ((sl-1)/4+1);have HN:Hid (∀w,Calls prog 54 #[.int .i64 (sl:Int)] w fun e w'=>e=.returned (.int .i64 (pa:Int))/\w=w'):=by
  intro w;rw[hpa];exact need_any sl hs1 (by omega) w
 have HC:Hid ((smN bl sl jo).C=superC 7 (bl:Int) (sl:Int) (jo:Int) (pa:Int) 2 3):=by
  show _=_;unfold smN CaN.C;rw[<-hpa];rfl
 rw[HC.o];clear hpa;obtain⟨L,hL⟩:=qqe (superC 7 (bl:Int) (sl:Int) (jo:Int) (pa:Int) 2 3);have h1:∀v∈L,v.oneCell'=true:=by rw[hL];exact Wt _ _ _ _ _ _ _
 have h7:L.length=7:=by rw[hL];rfl
 have hi:(prog.info? 40).map (·.size)=some L.length:=by rw[h7];exact yW
 have HI:=Y3 h7 hi h1;clear h7 hi h1;replace hL:=qqh hL;rcases(show sl=1\/2<=sl by omega)with rfl|h2
 all_goals
  (try simp only[Int.natCast_one]at*)
  go_enter func29,ntmps29
  go_wp2_with (first
   |(go_at_call 54;refine(HN.o _).mono ?_;rintro e w' ⟨rfl,rfl⟩)
   |(refine zk rfl _ _ _ rfl _ _ L rfl (by rw[hL.out];rfl) (by rw[HI.o.1];rfl) HI.o.2.1 HI.o.2.2 ?_)
   |fail)
  exact qYw (zN rfl _ _ w.heap.size 0 L _ rfl (zh (zc w _ rfl)) underlying40 rfl HI.o.2.1) rfl ⟨by rw[hL.out],(qxl _ w).alloc (qXv _) _⟩
def CaS.back14f(n:CaN)(b:CaS)(k:Int):CaS×Int:=if(flushR b.bF b.bO b.bP).cd≠0 then(b.fb,(flushR b.bF b.bO b.bP).cd)else b.fb.jv n k
def CaS.jL(n:CaN)(b:CaS)(k:Int)(x:Bk):CaS×Int:=
 if(writeR b.bF b.bO b.bP k.toNat x).cd≠0 then(b.jy (writeR b.bF b.bO b.bP k.toNat x),(writeR b.bF b.bO b.bP k.toNat x).cd)else(b.jy (writeR b.bF b.bO b.bP k.toNat x)).back14f n k
def CaS.jx(n:CaN)(a:CaS)(k:Int):CaS×Int:=
 if(getV a.ps k).2=false then(a,0)else if(a.jn n k).2.2≠0 then((a.jn n k).1,(a.jn n k).2.2)else(a.jn n k).1.jL n k (a.jn n k).2.1
def CaS.plan14(a:CaS)(md:Int)(nv:Nat):CaS:=if md=0 then{a with dP:=a.dP++[((nv%2:Nat):Int)]}else{a with bP:=a.bP++[((nv%2:Nat):Int)]}
def CaS.does14(n:CaN)(a:CaS)(dd blk:Int)(nv:Nat)(md:Int):CaS×Int:=
 if dd=0 then a.jD n blk (fillB nv) md else if dd=1 then a.gone n blk else if dd=2 then((a.jn n blk).1,(a.jn n blk).2.2)else if dd=3 then a.jh n else if dd=4 then a.ckpt n
 else if dd=5 then((CaS.jm n (nv%4) 0 a).1,(CaS.jm n (nv%4) 0 a).2.2)else if dd=6 then a.jx n blk else if dd=7 then(a.plan14 md nv,0)else(a,0)
structure CaS.Dn(a b:CaS):Prop where
 d:b.dP<:+a.dP
 b:b.bP<:+a.bP
section
variable{n:CaN}{a b c:CaS}
theorem CaS.Dn.refl(a:CaS):CaS.Dn a a:=⟨qXn _,qXn _⟩
theorem CaS.Dn.trans(h:CaS.Dn a b)(g:CaS.Dn b c):CaS.Dn a c:=⟨g.d.trans h.d,g.b.trans h.b⟩
theorem RX(F:List Bk)(O:List (Nat×Bk))(P:List Int):(flushR F O P).P=P.tail:=by unfold flushR;split;rfl;split<;>rfl
theorem RY(F:List Bk)(O:List (Nat×Bk))(P:List Int)(s:Nat)(y:Bk):(writeR F O P s y).P=P.tail:=by unfold writeR;split;rfl;split<;>rfl
theorem yT(F:List Bk)(O:List (Nat×Bk))(P:List Int):(flushR F O P).P<:+P:=by rw[RX];exact List.tail_suffix P
theorem yD(F:List Bk)(O:List (Nat×Bk))(P:List Int)(s:Nat)(y:Bk):(writeR F O P s y).P<:+P:=by rw[RY];exact List.tail_suffix P
theorem rv(F:List Bk):∀(L O:List (Nat×Bk)) (P:List Int),(wrsR F L O P).P<:+P
 |[],_,P=>qXn P
 |(s,y)::L,O,P=>by
  rw[wrsR];split
  .exact (rv F L _ _).trans (yD F O P s y)
  .exact yD F O P s y
theorem Tv(F:List Bk)(O:List (Nat×Bk))(P:List Int)(L:List (Nat×Bk)):(saveR F O P L).P<:+P:=by
 unfold saveR;split
 .exact (yT _ _ _).trans (rv F L O P)
 .exact rv F L O P
theorem Xz(base n:Nat)(F:List Bk):∀(W O:List (Nat×Bk)) (P:List Int),(comW base n F W O P).P<:+P
 |[],_,P=>qXn P
 |(s,y)::W,O,P=>by
  rw[comW];split
  .exact (Xz base n F W _ _).trans (yD F O P _ y)
  .exact yD F O P _ y
theorem RZ(base n:Nat)(F:List Bk)(O:List (Nat×Bk))(P:List Int)(W:List (Nat×Bk)):(comR base n F O P W).1.P<:+P:=by
 have h1:=yT F O P;have h2:=(Xz base n (flushR F O P).F W (flushR F O P).O (flushR F O P).P).trans h1;unfold comR
 repeat' split
 .exact h1
 .exact h2
 .exact (yT _ _ _).trans h2
 .exact (yT _ _ _).trans h2
theorem CaS.dn_fb(a:CaS):CaS.Dn a a.fb:=⟨qXn _,yT _ _ _⟩
theorem CaS.dn_fd(a:CaS):CaS.Dn a a.fd:=⟨yT _ _ _,qXn _⟩
theorem CaS.dn_bw(a:CaS)(k:Nat)(x:Bk):CaS.Dn a (a.jy (writeR a.bF a.bO a.bP k x)):=⟨qXn _,yD _ _ _ _ _⟩
theorem CaS.dn_ckpt(n:CaN)(a:CaS):CaS.Dn a (a.ckpt n).1:=by
 have h1:=a.dn_fb;have h2:=h1.trans a.fb.dn_fd;have h3:CaS.Dn a (a.fb.fd.dev (a.fb.fd.svR n)):=h2.trans ⟨Tv _ _ _ _,qXn _⟩;unfold CaS.ckpt
 repeat' split
 .exact h1
 .exact h2
 .exact h3
 .exact ⟨h3.d,h3.b⟩
theorem CaS.dn_roomed(n:CaN)(a:CaS):CaS.Dn a (a.je n).1:=by
 unfold CaS.je;split
 .exact CaS.Dn.refl a
 .exact a.dn_ckpt n
theorem CaS.dn_committed(n:CaN)(a:CaS):CaS.Dn a (a.jh n).1:=by
 have h1:=a.dn_fb;have h2:CaS.Dn a (a.fb.cm n):=h1.trans ⟨RZ _ _ _ _ _ _,qXn _⟩;unfold CaS.jh
 repeat' split
 .exact h1
 .exact h2
 .exact ⟨h2.d,h2.b⟩
theorem CaS.dn_evicts(n:CaN):∀(m g:Nat) (a:CaS),CaS.Dn a (CaS.jm n m g a).1
 |0,_,a=>CaS.Dn.refl a
 |m+1,g,a=>by
  have h1:=a.dn_roomed n;have h2:CaS.Dn a (((a.je n).1.ev n).left n ((a.je n).1.evK n)):=⟨h1.d,h1.b⟩
  simp only[CaS.jm]
  repeat' split
  .exact CaS.Dn.refl a
  .exact h1
  .exact ⟨h1.d,h1.b⟩
  .exact h2
  .exact h2.trans (CaS.dn_evicts n m (g+1) _)
theorem CaS.dn_takeR(n:CaN)(a:CaS)(s:Int):CaS.Dn a (a.jC n s).1:=by
 have h1:=a.dn_roomed n;unfold CaS.jC;split
 .exact h1
 .exact ⟨h1.d,h1.b⟩
theorem CaS.dn_al(a:CaS):CaS.Dn a a.al:=⟨qXn _,qXn _⟩
theorem CaS.dn_take2(n:CaN)(a:CaS):CaS.Dn a (a.jE n).1:=by
 have h1:=a.dn_committed n;unfold CaS.jE CaS.take3
 repeat' split
 .exact CaS.Dn.refl a
 .exact h1
 .exact h1.trans (CaS.dn_al _)
 .exact (h1.trans (CaS.dn_al _)).trans (CaS.dn_takeR n _ _)
theorem CaS.dn_takes(n:CaN)(a:CaS):CaS.Dn a (a.jj n).1:=by
 have h1:=CaS.dn_evicts n 1 0 a.al;unfold CaS.jj CaS.take1
 repeat' split
 .exact a.dn_al.trans (CaS.dn_takeR n _ _)
 .exact a.dn_al.trans h1
 .exact (a.dn_al.trans h1).trans (CaS.dn_take2 n _)
 .exact a.dn_al.trans (CaS.dn_take2 n _)
theorem CaS.dn_filled(n:CaN)(a:CaS)(s:Nat)(blk:Int)(x:Bk):CaS.Dn a (a.jl n s blk x).1:=by
 unfold CaS.jl;split
 .exact ⟨yD _ _ _ _ _,qXn _⟩
 .exact ⟨yD _ _ _ _ _,qXn _⟩
theorem CaS.dn_putted(n:CaN)(a:CaS)(k:Int)(s sum:Nat)(d:Bool):CaS.Dn a (a.ju n k s sum d).1:=by
 unfold CaS.ju;split
 .exact ⟨qXn _,qXn _⟩
 .exact ⟨qXn _,qXn _⟩
theorem CaS.dn_byp(n:CaN)(a:CaS)(k:Nat):CaS.Dn a (a.byp n k):=by
 unfold CaS.byp;split
 .exact ⟨qXn _,qXn _⟩
 .exact CaS.Dn.refl a
theorem CaS.jI(n:CaN)(a:CaS)(k:Nat)(x:Bk):CaS.Dn a (a.jk n k x).1:=by
 have h1:=a.dn_roomed n;have h2:=h1.trans (CaS.dn_bw (a.je n).1 k x);unfold CaS.jk
 repeat' split
 .exact h1
 .exact h2
 .exact h2.trans (CaS.dn_byp n _ k)
theorem CaS.dn_backed(n:CaN)(a:CaS)(k:Nat)(x:Bk):CaS.Dn a (a.jB n k x).1:=by
 have h1:=a.dn_takes n;have h2:=h1.trans (CaS.dn_filled n (a.jj n).1 (a.jj n).2.1.toNat k x);unfold CaS.jB CaS.backS
 repeat' split
 .exact h1
 .exact h1.trans (CaS.jI n _ k x)
 .exact h2
 .exact h2.trans (CaS.dn_putted n _ _ _ _ _)
theorem CaS.dn_thru(n:CaN)(a:CaS)(k:Nat)(x:Bk):CaS.Dn a (a.thru n k x).1:=by
 have h1:=a.dn_takes n;have h2:=h1.trans (CaS.dn_bw (a.jj n).1 k x);have h3:=h2.trans (CaS.dn_filled n ((a.jj n).1.jy (writeR (a.jj n).1.bF (a.jj n).1.bO (a.jj n).1.bP k x)) (a.jj n).2.1.toNat k x);unfold CaS.thru CaS.thruS CaS.thruF
 repeat' split
 .exact h1
 .exact h1.trans (CaS.jI n _ k x)
 .exact ⟨h2.d,h2.b⟩
 .exact h3.trans (CaS.dn_byp n _ k)
 .exact h3.trans (CaS.dn_putted n _ _ _ _ _)
theorem CaS.dn_wrote(n:CaN)(a:CaS)(k:Int)(x:Bk)(md:Int):CaS.Dn a (a.jD n k x md).1:=by
 unfold CaS.jD
 repeat' split
 .exact CaS.Dn.refl a
 .exact CaS.Dn.refl a
 .exact a.dn_backed n _ x
 .exact a.dn_thru n _ x
 .exact a.jI n _ x
theorem CaS.dn_gone(n:CaN)(a:CaS)(k:Int):CaS.Dn a (a.gone n k).1:=by
 unfold CaS.gone;split
 .exact CaS.Dn.refl a
 .exact a.jI n _ _
theorem CaS.dn_cleaned(n:CaN)(a:CaS)(k:Int):CaS.Dn a (a.jv n k).1:=by
 have h1:=a.dn_roomed n;unfold CaS.jv
 repeat' split
 .exact CaS.Dn.refl a
 .exact h1
 .exact ⟨h1.d,h1.b⟩
theorem CaS.readB_eq(n:CaN)(a:CaS)(k:Int):(a.jn n k).1=a\/(a.jn n k).1={a with bP:=a.bP.tail}\/(a.jn n k).1={a with dP:=a.dP.tail}:=by
 unfold CaS.jn CaS.readS;split
 .exact .inr (.inl rfl)
 split
 .exact .inl rfl
 split
 .exact .inr (.inr rfl)
 split
 .exact .inr (.inr rfl)
 .exact .inr (.inr rfl)
theorem CaS.dn_readB(n:CaN)(a:CaS)(k:Int):CaS.Dn a (a.jn n k).1:=by
 rcases a.readB_eq n k with h|h|h<;>rw[h]
 .exact CaS.Dn.refl a
 .exact ⟨qXn _,List.tail_suffix _⟩
 .exact ⟨List.tail_suffix _,qXn _⟩
theorem CaS.dn_back14(n:CaN)(a:CaS)(k:Int):CaS.Dn a (a.jx n k).1:=by
 have h1:=a.dn_readB n k;have h2:=h1.trans (CaS.dn_bw (a.jn n k).1 k.toNat (a.jn n k).2.1);have h3:=h2.trans (CaS.dn_fb _);unfold CaS.jx CaS.jL CaS.back14f
 repeat' split
 .exact CaS.Dn.refl a
 .exact h1
 .exact h2
 .exact h3
 .exact h3.trans (CaS.dn_cleaned n _ k)
end
structure CaS.Gd(n:CaN)(a:CaS)(N:Nat):Prop where
 tie:a.Tie n none
 fit:a.Fit N
 pd:a.dP.length<=N
 pb:a.bP.length<=N
section
variable{n:CaN}{a b:CaS}{N:Nat}
theorem CaS.Gd.mono(h:a.Gd n N){M:Nat}(hM:N<=M):a.Gd n M:=⟨h.tie,h.fit.mono hM,qXx h.pd hM,qXx h.pb hM⟩
theorem CaS.Gd.to(h:a.Gd n N){M:Nat}(hM:N<=M)(d:CaS.Dn a b)(ht:b.Tie n none)(hf:b.Fit M):b.Gd n M:=⟨ht,hf,qXx d.d.length_le (qXx h.pd hM),qXx d.b.length_le (qXx h.pb hM)⟩
theorem CaS.Gd.jn(h:a.Gd n N)(k:Int):(a.jn n k).1.Gd n N:=by
 refine h.to (qXv _) (a.dn_readB n k) ?_ ?_
 .rcases a.readB_eq n k with e|e|e<;>rw[e]
  .exact h.tie
  .exact {h.tie with}
  .exact {h.tie with}
 .rcases a.readB_eq n k with e|e|e<;>rw[e]
  .exact h.fit
  .exact {h.fit with}
  .exact {h.fit with}
theorem CaS.Tie.jx(h:a.Gd n N)(k:Int):(a.jx n k).1.Tie n none:=by
 have h1:=(h.jn k).tie;have h2:CaS.Tie n ((a.jn n k).1.jy (writeR (a.jn n k).1.bF (a.jn n k).1.bO (a.jn n k).1.bP k.toNat (a.jn n k).2.1)).fb none:=h1;unfold CaS.jx CaS.jL CaS.back14f
 repeat' split
 .exact h.tie
 .exact h1
 .exact {h1 with}
 .exact {h1 with}
 .exact CaS.Tie.jv h2 k
theorem CaS.Fit.jx(h:a.Gd n N)(h1:1<=a.next)(k:Int):(a.jx n k).1.Fit (N+n.pa+2):=by
 have f1:=(h.jn k).fit;have f2:=f1.bw k.toNat (a.jn n k).2.1;have f3:=f2.fb;have hn:(a.jn n k).1.next=a.next:=by rcases a.readB_eq n k with e|e|e<;>rw[e]
 unfold CaS.jx CaS.jL CaS.back14f
 repeat' split
 .exact h.fit.mono (by omega)
 .exact f1.mono (by omega)
 .exact f2.mono (by omega)
 .exact f3.mono (by omega)
 .exact (f3.jv (n:=n) (by show 1<=(a.jn n k).1.next;rw[hn];exact h1) k).mono (by omega)
theorem CaS.Gd.does14(h:a.Gd n N)(hg:a.Jg n)(h1:1<=a.next)(hj:4<=n.jo)(dd blk:Int)(nv:Nat)(md:Int):(a.does14 n dd blk nv md).1.Gd n (N+3*n.pa+n.jo+6):=by
 have hmm:nv%4*(n.pa+1)<=3*(n.pa+1):=qYb _ (by omega);unfold CaS.does14
 repeat' split
 .exact h.to (by omega) (a.dn_wrote n _ _ _) (h.tie.jD h1 hj _ _ _) (h.fit.jD hg h1 hj _ _ _)
 .exact h.to (by omega) (a.dn_gone n _) (h.tie.gone _) ((h.fit.gone h1 _).mono (by omega))
 .exact (h.jn blk).mono (by omega)
 .exact h.to (by omega) (a.dn_committed n) h.tie.jh ((h.fit.jh hg.len).mono (by omega))
 .exact h.to (by omega) (a.dn_ckpt n) h.tie.ckpt (h.fit.ckpt.mono (by omega))
 .exact h.to (by omega) (CaS.dn_evicts n _ _ a) (CaS.Tie.jm _ 0 h.tie) ((CaS.Fit.jm _ 0 h.fit h1).mono (by omega))
 .exact h.to (by omega) (a.dn_back14 n _) (CaS.Tie.jx h _) ((CaS.Fit.jx h h1 _).mono (by omega))
 .have hp:=h.pd;have hb:=h.pb;unfold CaS.plan14;split
  .exact ⟨{h.tie with},{h.fit.mono (show N<=N+3*n.pa+n.jo+6 by omega)with},by show(a.dP++_).length<=_;rw[qzd];simp;omega,by show a.bP.length<=_;omega⟩
  .exact ⟨{h.tie with},{h.fit.mono (show N<=N+3*n.pa+n.jo+6 by omega)with},by show a.dP.length<=_;omega,by show(a.bP++_).length<=_;rw[qzd];simp;omega⟩
 .exact h.mono (by omega)
end
section
variable{own:Nat->Nat}{w w':World}{c:Nat}{n:CaN}{p:CaP}{a:CaS}{N:Nat}
theorem Tw{ps:List (Int×Bool)}{k:Int}(h:(getV ps k).2=true):∃m:Nat,m<ps.length/\k=(m:Int)/\(plc ps m).2=true/\plc ps m≠(-1,false):=by
 by_cases hc:getC ps k=0
 .obtain ⟨m,h1,rfl,h3⟩:=zR.1 hc;rw[yK h1 h3]at h;exact⟨m,h1,rfl,h,h3⟩
 .rw [qV hc]at h;cases h
theorem Tx(h:CaAt own w c n p a)(k:Int)(hd:(getV a.ps k).2=false):Calls prog 90 #[ptr c,.int .i64 k] w (zu own w c n p a (.int .i64 0)):=by
 have HP:=qqh (uE h k);obtain⟨s,hs⟩:=qqe ((getV a.ps k).1);obtain⟨b,hb⟩:=qqe ((getC a.ps k==0));rw[<-hs,hd,<-hb]at HP;clear h hd hs hb;go_enter func90,ntmps90
 go_wp2_with fail
 refine HP.o.mono ?_;rintro e w2 ⟨rfl,own2,h2,d2⟩;obtain⟨w3,hw3⟩:=qqe (w2.alloc (.cells #[.int .i64 s,.bool false] 95));have hu3:=qqu hw3;have g3:=qqg hw3;have c1:=za g3 1;have H3:=Y3 (h2.new hu3) (d2.trans (h2.ji hu3)) hw3;rw[hw3]at c1;clear h2 d2 hw3 hu3 g3 HP;cases b
 .go_wp2
  go_ret
  rw[<-H3.o.2.2];exact⟨rfl,own2,H3.o.1,H3.o.2.1⟩
 .go_wp2
  go_ret
  rw[<-H3.o.2.2];exact⟨rfl,own2,H3.o.1,H3.o.2.1⟩
theorem Ty(h:CaAt own w c n p a)(hg:a.Gd n N)(hN:N+2<=50000)(k:Int):Calls prog 90 #[ptr c,.int .i64 k] w (zu own w c n p (a.jx n k).1 (.int .i64 (a.jx n k).2)):=by
 cases hd:(getV a.ps k).2
 case' false=>
  have e:a.jx n k=(a,0):=by unfold CaS.jx;rw[if_pos hd]
  rw[e];exact Tx h k hd
 obtain⟨m,hm,rfl,h1,h2⟩:=Tw hd;have hgc:getC a.ps (m:Int)=0:=zR.2 ⟨m,hm,rfl,h2⟩;have HPl:=qqh (uE h (m:Int));obtain⟨s,hs⟩:=qqe ((getV a.ps (m:Int)).1);rw[<-hs,hd,hgc]at HPl;replace HPl:Hid (Calls prog 37 #[ptr c,.int .i64 (m:Int)] w (zu own w c n p a (.tuple #[zJ s true,.bool true]))):=HPl;have hb:=hg.jn (m:Int);have hmb:m<n.bl:=by rw[<-h.pl];exact hm
 have E:a.jx n (m:Int)=if(a.jn n (m:Int)).2.2≠0 then((a.jn n (m:Int)).1,(a.jn n (m:Int)).2.2)else(a.jn n (m:Int)).1.jL n (m:Int) (a.jn n (m:Int)).2.1:=by
  conv=>lhs;unfold CaS.jx
  rw[if_neg (by rw[hd];decide)]
 rw[E];have HRd:∀{own1:Nat->Nat} {w1:World},CaAt own1 w1 c n p a->Calls prog 45 #[ptr c,.int .i64 (m:Int)] w1 (ZL own1 w1 c n p (a.jn n (m:Int)).1 (a.jn n (m:Int)).2.1 (a.jn n (m:Int)).2.2):=fun h1=>Ya h1 (m:Int);obtain⟨r,hr⟩:=qqe (a.jn n (m:Int));rw[<-hr]at HRd hb⊢;obtain⟨b,x,c0⟩:=r;dsimp only at HRd hb⊢;unfold CaS.jL;rw[qxu];obtain⟨r1,hr1⟩:=qqe (writeR b.bF b.bO b.bP m x);have HW:∀{own1:Nat->Nat} {w1:World},CaAt own1 w1 c n p b->x.length=64->Calls prog 18 #[ptr p.back,.int .i64 (m:Int),.agg (bkC x).toArray] w1 (zu own1 w1 c n p (b.jy r1) (.int .i64 r1.cd)):=fun h1 hl=>by
  rw[hr1];exact xI h1 m (by rw[h1.gl];exact hmb) x hl (by have:=hb.fit.bO;omega)
 have f1:(b.jy r1).Fit (N+1):=by rw[hr1];exact hb.fit.bw m x
 have t1:(b.jy r1).Tie n none:={hb.tie with}
 rw[<-hr1];obtain⟨b1,hb1⟩:=qqe (b.jy r1);rw[<-hb1]at HW f1 t1⊢;have f2:=f1.fb;have t2:b1.fb.Tie n none:={t1 with}
 have HF:∀{own1:Nat->Nat} {w1:World},CaAt own1 w1 c n p b1->Calls prog 46 #[ptr p.back] w1 (zu own1 w1 c n p b1.fb (.int .i64 (flushR b1.bF b1.bO b1.bP).cd)):=fun h1=>xG h1;have HC:∀{own1:Nat->Nat} {w1:World},CaAt own1 w1 c n p b1.fb->Calls prog 168 #[ptr c,.int .i64 (m:Int)] w1 (zu own1 w1 c n p (b1.fb.jv n (m:Int)).1 (.int .i64 (b1.fb.jv n (m:Int)).2)):=fun h1=>Eh h1 f2 (by omega) t2 (m:Int);unfold CaS.back14f;obtain⟨c2,hc2⟩:=qqe ((flushR b1.bF b1.bO b1.bP).cd);rw[<-hc2]at HF⊢;obtain⟨b2,hb2⟩:=qqe (b1.fb);rw[<-hb2]at HF HC⊢;obtain⟨⟨b3,c3⟩,hb3⟩:∃q,q=b2.jv n (m:Int):=⟨_,rfl⟩
 rw[<-hb3]at HC⊢;obtain⟨c1,hc1⟩:=qqe (r1.cd);rw[<-hc1]at HW⊢;dsimp only at HC⊢;have HH:=qqh (And.intro @HRd (And.intro @HW (And.intro @HF @HC)));obtain⟨R,hRR⟩:=qqe ((if c0≠0 then(b,c0)else if c1≠0 then(b1,c1)else if c2≠0 then(b2,c2)else(b3,c3)));rw[<-hRR];have HR:=qqh hRR;clear hRR h hg hN hm h1 h2 hgc hs hd hb hmb E HRd HW HF HC hr hr1 f1 t1 hb1 f2 t2 hc2 hb2 hb3 hc1;go_enter func90,ntmps90
 go_wp2_with fail
 refine HPl.out.mono ?_;rintro e w2 ⟨rfl,own2,h2,d2⟩;obtain⟨w3,hw3⟩:=qqe (w2.alloc (.cells #[.int .i64 s,.bool true] 95));have hu3:=qqu hw3;have g3:=qqg hw3;have c1':=za g3 1;have H3:=Y3 (h2.new hu3) (d2.trans (h2.ji hu3)) hw3;have HD:=qqh (EJ H3.o.1);rw[hw3]at c1';clear h2 d2 hw3 hu3 g3 HPl;go_wp2_with fail
 rw[<-H3.o.2.2];refine HD.o.mono ?_;rintro e w4 ⟨rfl,hu4⟩;have H4:=Y2 (H3.o.1.new hu4) (H3.o.2.1.trans (H3.o.1.ji hu4));have HRd:=qqh (HH.o.1 H4.o.1);clear hu4 c1' HD;go_wp2_with fail
 refine HRd.out.mono ?_;rintro e w5 ⟨y',cd,hy',hcd,hyl,rfl,own5,h5,d5⟩;subst hcd;obtain⟨w6,hw6⟩:=qqe (w5.alloc (.cells (bkC y').toArray 54));have hu6:=qqu hw6;have g6:=qqg hw6;have r6:=zh g6;have hsi:=zw y' hyl;have H6:=Y3 (h5.new hu6) ((H4.o.2.trans d5).trans (h5.ji hu6)) hw6;have hwr:=HH.o.2.1 H6.o.1 (by rw[<-hy'];exact hyl);rw[<-hy']at hwr;have HW:=qqh hwr;rw[hw6]at r6;clear h5 d5 hw6 hu6 g6 hwr HRd hy';by_cases hc0:cd=0
 case' neg=>
  have q0:(cd==0)=false:=by simpa using hc0
  have hr:R=(b,cd):=by rw[HR.o,if_pos hc0]
  have HK:=Y2 hr HW;clear hc0 HW hr;go_wp2_with (first
   |(refine zk rfl _ _ _ rfl _ _ (bkC y') rfl rfl (by rw[zn,hyl];rfl) hsi (zv y') ?_)
   |fail)
  go_ret
  rw[<-H6.o.2.2,HK.o.1];exact⟨rfl,_,H6.o.1,H6.o.2.1⟩
 subst hc0;go_wp2_with (first
  |(refine zk rfl _ _ _ rfl _ _ (bkC y') rfl rfl (by rw[zn,hyl];rfl) hsi (zv y') ?_)
  |(refine qZg rfl _ _ rfl _ _ rfl _ _ r6 underlying54 rfl hsi ?_)
  |fail)
 rw[<-H6.o.2.2];refine HW.o.mono ?_;rintro e w7 ⟨rfl,own7,h7,d7⟩;have H7:=Y2 h7 (H6.o.2.1.trans d7);have HF:=qqh (HH.o.2.2.1 h7);clear h7 d7 HW r6;by_cases hc1:c1=0
 case' neg=>
  have q0:(c1==0)=false:=by simpa using hc1
  have hr:R=(b1,c1):=by rw[HR.o,if_neg (fun h=>h rfl),if_pos hc1]
  have HK:=qqh hr;clear hc1 hr;go_wp2
  go_ret
  rw[HK.o];exact⟨rfl,own7,H7.o.1,H7.o.2⟩
 subst hc1;go_wp2_with fail
 refine HF.o.mono ?_;rintro e w8 ⟨rfl,own8,h8,d8⟩;have H8:=Y2 h8 (H7.o.2.trans d8);have HC:=qqh (HH.o.2.2.2 h8);clear h8 d8 HF;by_cases hc2:c2=0
 case' neg=>
  have q0:(c2==0)=false:=by simpa using hc2
  have hr:R=(b2,c2):=by rw[HR.o,if_neg (fun h=>h rfl),if_neg (fun h=>h rfl),if_pos hc2]
  have HK:=qqh hr;clear hc2 hr;go_wp2
  go_ret
  rw[HK.o];exact⟨rfl,own8,H8.o.1,H8.o.2⟩
 subst hc2;have hr:R=(b3,c3):=by rw[HR.o,if_neg (fun h=>h rfl),if_neg (fun h=>h rfl),if_neg (fun h=>h rfl)]
 have HK:=qqh hr;clear hr;go_wp2_with fail
 refine HC.o.mono ?_;rintro e w9 ⟨rfl,own9,h9,d9⟩;have H9:=Y2 h9 (H8.o.2.trans d9);clear h9 d9 HC;go_wp2
 go_ret
 rw[HK.o];exact⟨rfl,own9,H9.o.1,H9.o.2⟩
end
end Go.Proofs.YtfhfbpmlnjdfoaaGreatDoor
