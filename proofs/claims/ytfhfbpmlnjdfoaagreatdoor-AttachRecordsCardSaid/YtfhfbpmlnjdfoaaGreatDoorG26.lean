/- A cache: Discard, Count, Devices, Place, Super -/
import Derived.Test.YtfhfbpmlnjdfoaaGreatDoorG25
set_option maxRecDepth 100000
set_option maxHeartbeats 2000000
namespace Go.Proofs.YtfhfbpmlnjdfoaaGreatDoor
open Go Go.RowKit
section
variable{own:Nat->Nat}{w w':World}{c:Nat}{n:CaN}{p:CaP}{a:CaS}{N:Nat}
theorem XB(h:CaAt own w c n p a)(hf:a.Fit N)(hN:N+n.pa+2<=50000)(ht:a.Tie n none)(k:Int):
  Calls Tryz.prog 87 #[ptr c,.int .i64 k] w (zu own w c n p (a.gone n k).1 (.int .i64 (a.gone n k).2)):=by
 have HT:=qqh (Ym h k);have H:=Y4 h hf hN ht;clear h hf hN ht;obtain⟨tb,htb⟩:=qqe ((decide (0<=k)&&decide (k<(n.bl:Int))));rw[<-htb]at HT;cases tb with
 |false=>
  have hk:k<0\/(n.bl:Int)<=k:=by simp at htb;omega
  have e:a.gone n k=(a,10):=by unfold CaS.gone;rw[if_pos hk]
  rw[e];clear htb hk e;go_enter Tryz.func87,Tryz.ntmps87
  go_wp2_with fail
  refine HT.o.mono ?_;rintro e w2 ⟨rfl,hw2⟩;subst hw2;clear HT;go_wp2
  go_ret
  exact⟨rfl,own,H.o.1,Did.refl H.o.1.far⟩
 |true=>
  have hk:0<=k/\k<(n.bl:Int):=by simpa using htb.symm
  have e:a.gone n k=a.bypassed n k.toNat zB:=by unfold CaS.gone;rw[if_neg (by omega)]
  rw[e];have HB:=qqh (wS H.o.1 H.o.2.1 H.o.2.2.1 H.o.2.2.2 k.toNat (by omega) zB rfl);rw[Int.toNat_of_nonneg hk.1]at HB;clear htb hk e;go_enter Tryz.func87,Tryz.ntmps87
  go_wp2_with fail
  refine HT.o.mono ?_;rintro e w2 ⟨rfl,hw2⟩;subst hw2;clear HT;go_wp2_with fail
  rw[JR];refine HB.o.mono ?_;rintro e w3 ⟨rfl,own3,h3,d3⟩;have H3:=Y2 h3 d3;clear h3 d3 HB;generalize (bkC zB).toArray=Z at*;go_wp2
  go_ret
  exact⟨rfl,own3,H3.o.1,H3.o.2⟩
theorem rS(h:CaAt own w c n p a)(st:Int):Calls Tryz.prog 26 #[ptr c,.int .i64 st] w (zu own w c n p a (.int .i64 (pos a.st st).length)):=by
 have HC:=qqh (vW h st);obtain⟨-,-,-,-,-,cS,-,-,-⟩:=h.cells;clear h;go_enter Tryz.func26,Tryz.ntmps26
 go_wp2_with fail
 refine HC.o.mono ?_;rintro e w3 ⟨rfl,own3,h3,d3⟩;have H3:=Y2 h3 d3;clear h3 d3 HC cS;go_wp2
 go_ret
 exact⟨rfl,own3,H3.o.1,H3.o.2⟩
theorem XC(h:CaAt own w c n p a):Calls Tryz.prog 91 #[ptr c] w (zu own w c n p a (.tuple #[ptr p.ssd,ptr p.back])):=by
 obtain⟨c0,c1,-,-,-,-,-,-,-⟩:=h.cells;have H:=qqh h;clear h;go_enter Tryz.func91,Tryz.ntmps91
 go_wp2
 go_quiet(fail)
 go_wp2
 go_ret2
 have hu:=(uur (fun _=>False) w).drewN nq;exact⟨rfl,own,H.o.new hu,H.o.didNew hu⟩
theorem qu(h:CaAt own w c n p a)(k:Int):Calls Tryz.prog 37 #[ptr c,.int .i64 k] w (zu own w c n p a (.tuple #[zN (getV a.ps k).1 (getV a.ps k).2,.bool (getC a.ps k==0)])):=by
 obtain⟨w1,hw1⟩:=qqe (w.alloc (.cells #[.int .i64 0,.bool false] 95));have hu1:Upd (fun _=>False) w w1:=by rw[hw1];exact(uur _ w).alloc _
 have hg1:w1.heap[w.heap.size]?=some (.cells #[.int .i64 0,.bool false] 95 (0,0)):=by rw[hw1];exact zc w _ rfl
 obtain⟨m,hm⟩:=qqe (w.heap.size);have hm0:own m=0:=h.far _ (by omega);rw[<-hm]at hg1;have h1:=h.new hu1;have d1:=h.didNew hu1;have HG:=qqh (qe h1 k);have hcl:=h.clt;have HL:=Y2 h.nib.lt h.tur.lt;obtain⟨-,-,-,-,d4,-,-,-,-⟩:=h.cells;have HB:=qqh (qd (ps:=a.ps) (k:=k));have H:=Y3 d1 hg1 hm0;have HM:=qqh hm;have HW1:=qqh hw1;clear h1 h hu1 hg1 hm0 d1 hm hw1;go_enter Tryz.func37,Tryz.ntmps37
 go_wp2_with fail
 rw[<-HW1.o,<-HM.o];refine HG.o.mono ?_;rintro e w2 ⟨rfl,own2,h2,d2⟩;have g2:=(d2.upd.block m (zd H.o.2.1) (fun h=>h.1 H.o.2.2)).trans H.o.2.1;have hmo:own2 m=0:=(d2.old m (zd H.o.2.1)).trans H.o.2.2;generalize getV a.ps k=pv at*;obtain⟨s,b⟩:=pv;simp only at*;have hlm:=zd g2;have hne1:m≠0:=fun e=>by have:=HL.o.1;have:=HM.o;omega
 have hne2:m≠1:=fun e=>by have:=HL.o.2;have:=HM.o;omega
 have e0:=za g2 0;have e1:=za g2 1;have f0:=zf g2 0;have f1:=zf g2 1;simp at e0 e1;have HN:Hid (∀u v:Value,∃W,W=(((w2.setCell ⟨m,0,none⟩ u).setCell ⟨m,1,none⟩ v).alloc (.cells #[.int .i64 s,.bool b] 95))/\CaAt own2 W c n p a/\Did own own2 w W/\W.cell? ⟨m,0,none⟩=some u/\W.cell? ⟨m,1,none⟩=some v):=by
  intro u v;have hus:Upd (fun j=>j=m) w2 ((w2.setCell ⟨m,0,none⟩ u).setCell ⟨m,1,none⟩ v):=(zi _ _ _ _).trans (zi _ _ _ _);have g3:=zh (zh g2 0 u) 1 v;have hu3:=(uur (fun _=>False) ((w2.setCell ⟨m,0,none⟩ u).setCell ⟨m,1,none⟩ v)).alloc (.cells #[.int .i64 s,.bool b] 95);have h3:=h2.nobody hus (fun j e=>by subst e;exact⟨hmo,hne1,hne2⟩);have d3:=((H.o.1.trans d2).setCell ⟨m,0,none⟩ (fun hl=>by have:=HM.o;simp at hl;omega) u).setCell ⟨m,1,none⟩ (fun hl=>by have:=HM.o;simp at hl;omega) v;have g4:=hu3.blockv g3;refine⟨_,rfl,h3.new hu3,d3.trans (h3.didNew hu3),?_,?_⟩
  .have:=za g4 0;simpa using this
  .have:=za g4 1;simpa using this
 clear g2 h2 d2 hmo HG d4 hne1 hne2;by_cases hc:getC a.ps k=0
 .rw [hc];go_wp2
  obtain⟨W,hW,h3,d3,k0,k1⟩:=HN.o (.int .i64 s) (.bool b);rw[<-hW];clear HN;refine qYw (v:=.tuple #[zN s b,.bool true]) (by simp[results,Tryz.results37,go_sem,k0,k1]) rfl ⟨by simp[hc],own2,h3,d3⟩
 .have q0:(getC a.ps k==0)=false:=by simpa using hc
  have hz:=HB.o hc;have hz1:s=0:=congrArg Prod.fst hz;have hz2:b=false:=congrArg Prod.snd hz;subst hz1 hz2;generalize getC a.ps k=cd at*;clear HB hz;go_wp2
  obtain⟨W,hW,h3,d3,k0,k1⟩:=HN.o (.int .i64 0) (.bool false);rw[<-hW];clear HN;refine qYw (v:=.tuple #[zN 0 false,.bool false]) (by simp[results,Tryz.results37,go_sem,k0,k1]) rfl ⟨by simp[q0],own2,h3,d3⟩
end
theorem zT{ops:Array Oper}{rest:List Oper}{o:Oper}{a:Act}{w:World}{Q:Exit->Act->World->Prop}(hg:o.guard=none)(t:TypeId)(ho:o.op=.alloc t)(cs:Array Value)
  (hrun:∀w:World,(Instr.alloc t true (.tuple #[])).run Tryz.prog w=.ok (.pointer (some ⟨w.heap.size,0,none⟩)) (w.alloc (.cells cs t)))
  (h:wpList Tryz.prog ops Q rest (a.put o.dst (.pointer (some ⟨w.heap.size,0,none⟩))) (w.alloc (.cells cs t))):wpList Tryz.prog ops Q (o::rest) a w:=by
 refine qZh hg fun K' hK'=>?_;unfold Oper.wp;simp only[execOp,ho,qYm,hrun,qYl];exact hK' _ _ h
theorem Ua(w:World):(Instr.alloc 159 true (.tuple #[])).run Tryz.prog w=.ok (.pointer (some ⟨w.heap.size,0,none⟩)) (w.alloc (.cells [Value.int .i64 0,Value.int .i64 0,Value.int .i64 0,Value.int .i64 0,Value.int .i64 0,Value.int .i64 0].toArray 159)):=by
 kernel_rfl
theorem Ub(w:World):(Instr.alloc 165 true (.tuple #[])).run Tryz.prog w=.ok (.pointer (some ⟨w.heap.size,0,none⟩)) (w.alloc (.cells [Value.int .i64 0,Value.int .i64 0,Value.int .i64 0,Value.int .i64 0,Value.int .i64 0,Value.int .i64 0,Value.int .i64 0,Value.int .i64 0,Value.int .i64 0,Value.int .i64 0,Value.int .i64 0,Value.int .i64 0,Value.int .i64 0].toArray 165)):=by
 kernel_rfl
theorem wm(Z:Bk)(hZ:Z=zB):∀w:World,(Instr.build 54 #[]).run Tryz.prog w=.ok (.agg (bkC Z).toArray) w:=by
 intro w;subst hZ;kernel_rfl
theorem zX{ops:Array Oper}{rest:List Oper}{op:Oper}{a:Act}{w:World}{Q:Exit->Act->World->Prop}(hgd:op.guard=none)(ho:op.op=.build 54 #[]){Z:Bk}
  (hrun:∀w:World,(Instr.build 54 #[]).run Tryz.prog w=.ok (.agg (bkC Z).toArray) w)
  (h:wpList Tryz.prog ops Q rest (a.put op.dst (.agg (bkC Z).toArray)) w):wpList Tryz.prog ops Q (op::rest) a w:=by
 refine qZh hgd fun K' hK'=>?_;unfold Oper.wp;simp only[execOp,ho,qzp,qzo,qYm,hrun,qYl];exact hK' _ _ h
theorem vz(Z:Bk)(hZ:Z=zB):∀w:World,(Instr.alloc 54 true (.tuple #[])).run Tryz.prog w=.ok (.pointer (some ⟨w.heap.size,0,none⟩)) (w.alloc (.cells (bkC Z).toArray 54)):=by
 intro w;subst hZ;kernel_rfl
theorem qv{P:Program}{ops:Array Oper}{o:Oper}{a:Act}{w:World}{K:Act->World->Prop}{Q:Exit->Act->World->Prop}{E:Prop}(hg:o.guard=none)(t:TypeId)(hop:o.op=.alloc t)(cs:Array Value)
  (hrun:∀w:World,(Instr.alloc t true (.tuple #[])).run P w=.ok (.pointer (some ⟨w.heap.size,0,none⟩)) (w.alloc (.cells cs t)))
  (hK:K (a.put o.dst (.pointer (some ⟨w.heap.size,0,none⟩))) (w.alloc (.cells cs t))):if Region.wanted o (yielded ops a.tmps)=true then Oper.wp P o a w K Q else E:=by
 have hw:Region.wanted o (yielded ops a.tmps)=true:=by simp[Region.wanted,hg]
 rw[if_pos hw];unfold Oper.wp;simp only[execOp,hop,qYm,hrun,qYl];exact hK
def CaS.readS(n:CaN)(a:CaS)(k:Int)(s:Nat):CaS×Bk×Int:=
 if fate a.dP=1 then({a with dP:=a.dP.tail},zB,19)
 else if crcC (curB a.dF a.dO (n.slot0+s))=(a.sums k).getD 0 then({a with dP:=a.dP.tail},curB a.dF a.dO (n.slot0+s),0)else({a with dP:=a.dP.tail},zB,13)
def CaS.readB(n:CaN)(a:CaS)(k:Int):CaS×Bk×Int:=
 if getC a.ps k=14 then({a with bP:=a.bP.tail},(if fate a.bP=1 then zB else curB a.bF a.bO k.toNat),(if fate a.bP=1 then 19 else 0))
 else if getC a.ps k≠0 then(a,zB,getC a.ps k)else a.readS n k (getV a.ps k).1.toNat
section
variable{own own2:Nat->Nat}{w w' W2:World}{c m:Nat}{n:CaN}{p:CaP}{a:CaS}{N:Nat}
theorem xN(h:CaAt own2 W2 c n p a)(d:Did own own2 w W2)(hm0:own2 m=0)(hm:w.heap.size<=m)(h1:m≠0)(h2:m≠1)(cs:List Value):CaAt own2 (W2.setCells m 0 cs) c n p a/\Did own own2 w (W2.setCells m 0 cs):=
 ⟨h.nobody (zp W2 m 0 cs) (fun j e=>by subst e;exact⟨hm0,h1,h2⟩),⟨d.upd.new (zp W2 m 0 cs) (fun i hi e=>by omega),d.old,d.new,fun j hj=>d.far j (by have:=(zp W2 m 0 cs).size;omega)⟩⟩
theorem xe{W:World}{g:Nat}{cs:List Value}{t:TypeId}(hg:W.heap[g]?=some (.cells cs.toArray t (0,0)))(hc:cs.length=64):W.there g 0 64:=fun j hj=>by
 rw[za hg,zf hg];exact⟨by rw[qYe,qxe (by simp[hc];omega)];rfl,rfl⟩
theorem WL(h:CaAt own w c n p a)(k:Int):
  Calls Tryz.prog 45 #[ptr c,.int .i64 k] w (sV own w c n p (a.readB n k).1 (a.readB n k).2.1 (a.readB n k).2.2):=by
 obtain⟨R,hR⟩:=qqe (a.readB n k);rw[<-hR];unfold CaS.readB at hR;obtain⟨w1,hw1⟩:=qqe (w.alloc (.cells (bkC zB).toArray 54));have hu1:Upd (fun _=>False) w w1:=by rw[hw1];exact(uur _ w).alloc _
 have hg1:w1.heap[w.heap.size]?=some (.cells (bkC zB).toArray 54 (0,0)):=by rw[hw1];exact zc w _ rfl
 obtain⟨m,hm⟩:=qqe (w.heap.size);have hm0:own m=0:=h.far _ (by omega);rw[<-hm]at hg1;have h1:=h.new hu1;have d1:=h.didNew hu1;have hcl:=h.clt;have HL:=Y3 h.nib.lt h.tur.lt hm;have HG:=qqh (qe h1 k);obtain⟨-,-,-,-,d4,-,-,-,-⟩:=h.cells;have H:=Y4 d1 hg1 hm0 hR;have HW1:=qqh hw1;clear h1 h hu1 hg1 hm0 d1 hm hw1 hR;obtain⟨Z,hZ⟩:=qqe (zB);have hZl:Z.length=64:=by rw[hZ];rfl
 have HZ:=Y2 hZ (wm Z hZ);clear hZ;go_enter Tryz.func45,Tryz.ntmps45
 go_wp2_with fail
 rw[JR,<-HW1.o,<-HL.o.2.2];refine HG.o.mono ?_;rintro e w2 ⟨rfl,own2,h2,hd2⟩;have g2:=(hd2.upd.block m (zd H.o.2.1) (fun h=>h.1 H.o.2.2.1)).trans H.o.2.1;have hmo:own2 m=0:=(hd2.old m (zd H.o.2.1)).trans H.o.2.2.1;have d2:=H.o.1.trans hd2;have hR:=H.o.2.2.2;have hm1:m≠0:=fun e=>by have:=HL.o.1;have:=HL.o.2.2;omega
 have hm2:m≠1:=fun e=>by have:=HL.o.2.1;have:=HL.o.2.2;omega
 have HM:=Y3 hm1 hm2 (show w.heap.size<=m by have:=HL.o.2.2;omega);clear HG d4 hd2 H hm1 hm2;generalize hgv:getV a.ps k=pv at*;obtain⟨s,db⟩:=pv;simp only at hR;obtain⟨w3,hw3⟩:=qqe (w2.alloc (.cells #[.int .i64 s,.bool db] 95));have hu3:Upd (fun _=>False) w2 w3:=by rw[hw3];exact(uur _ w2).alloc _
 have h3:=h2.new hu3;have d3:=d2.trans (h2.didNew hu3);have g3:=hu3.blockv g2;have gp:w3.heap[w2.heap.size]?=some (.cells #[.int .i64 s,.bool db] 95 (0,0)):=by rw[hw3];exact zc w2 _ rfl
 have HW3:=qqh hw3;obtain⟨pb,hpb⟩:=qqe (w2.heap.size);have hpo:own2 pb=0:=h2.far _ (by omega);rw[<-hpb]at gp;have hpm:pb≠m:=by have:=zd g2;omega
 have HPB:=qqh hpb;have hcl2:=h2.clt;obtain⟨b0,b1,-,-,-,-,-,-,-⟩:=h2.cells;clear h2 d2 g2 hu3 hw3 hpb hcl;generalize hgc:getC a.ps k=cd at*;by_cases hc14:cd=14
 .subst hc14;rw[if_pos rfl]at hR;obtain⟨kn,rfl,hkn⟩:∃kn:Nat,k=(kn:Int)/\kn<a.bF.length:=by
   have h1:=h3.pl;have h2:=h3.gl;unfold getC at hgc;split at hgc
   .cases hgc
   .exact ⟨k.toNat,by omega,by omega⟩
  have HRd:=qqh (sW h3 kn hkn);have HX:=Y4 d3 g3 hmo hR;clear h3 d3 g3 hmo hR gp hgc hgv hpo hkn hpm;go_wp2_with fail
  rw[<-HW3.o];refine HRd.out.mono ?_;rintro e w4 ⟨y,cd,hy,hcd,hyl,rfl,own4,h4,hd4⟩;obtain⟨d3,g3,hmo,hR⟩:=HX.o;have g4:=(hd4.upd.block m (zd g3) (fun h=>h.1 hmo)).trans g3;have hth:=xe g4 (by rw[zo];rfl);have hmo4:own4 m=0:=(hd4.old m (zd g3)).trans hmo;obtain⟨h5,d5⟩:=xN h4 (d3.trans hd4) hmo4 HM.o.2.2 HM.o.1 HM.o.2.1 (bkC y);have H5:=Y6 h5 d5 hR hy hcd hyl;clear h4 hd4 d3 g3 hmo hR g4 hmo4 h5 d5 HRd HX hy hcd;go_wp2_with (first
   |(refine qZi rfl _ _ _ rfl _ _ (bkC y).toArray rfl rfl (by rw[zl _ hyl];exact hth) (by rw[zl _ hyl];exact zF) (qYu (zv _)) ?_)
   |fail)
  obtain⟨h5,d5,hR,hy,hcd,-⟩:=H5.o;refine qYw (zn rfl _ _ m 0 (bkC y) _ rfl (qYr _ _ _ _ (by rw[zo,hyl];exact hth)) Tryz.underlying54 rfl (zt y hyl)) rfl ?_;rw[hR];exact⟨y,cd,by rw[hy];rfl,hcd,hyl,rfl,own4,h5,d5⟩
 by_cases hc:cd=0
 rotate_left
 .rw [if_neg hc14,if_pos hc]at hR;have q0:(cd==14)=false:=by simpa using hc14
  have q1:(cd==0)=false:=by simpa using hc
  have hth:=xe g3 (by rw[zo];rfl);obtain⟨h5,d5⟩:=xN h3 d3 hmo HM.o.2.2 HM.o.1 HM.o.2.1 (bkC Z);have H5:=Y3 h5 d5 hR;clear h3 d3 g3 hmo hR gp hgc hgv hpo h5 d5;rw[HW3.o]at hth;go_wp2_with (first
   |(refine zX rfl rfl HZ.o.2 ?_)
   |(refine qZi rfl _ _ _ rfl _ _ (bkC Z).toArray rfl rfl (by rw[zl _ hZl];exact hth) (by rw[zl _ hZl];exact zF) (qYu (zv _)) ?_)
   |fail)
  obtain⟨h5,d5,hR⟩:=H5.o;rw[<-HW3.o]at hth⊢;refine qYw (zn rfl _ _ m 0 (bkC Z) _ rfl (qYr _ _ _ _ (by rw[zo,hZl];exact hth)) Tryz.underlying54 rfl (zt Z hZl)) rfl ?_;rw[hR];exact⟨Z,cd,HZ.o.1,rfl,hZl,rfl,own2,h5,d5⟩
 subst hc;rw[if_neg (by decide),if_neg (by decide)]at hR;unfold CaS.readS at hR;obtain⟨vi,mi,hix,-,-⟩:=h3.ix;obtain⟨kn,hkn,hkk,hs0,hs1,hgv2⟩:=uB hix.good hgc;rw[hgv]at hgv2;have hs0':0<=s:=by have e:=congrArg Prod.fst hgv2;simp only at e;rw[e];exact hs0
 have hs1':s<(n.sl:Int):=by have e:=congrArg Prod.fst hgv2;simp only at e;rw[e];exact hs1
 clear hix hs0 hs1 hgv2 hgv hgc hc14;obtain⟨sn,rfl⟩:∃sn:Nat,s=(sn:Int):=⟨s.toNat,by omega⟩
 rw[qxu]at hR;have hk4:k<4096:=by have h1:=h3.pl;have h2:=h3.ok.b2;rw[hkk];omega
 have hk0:0<=k:=by rw[hkk];omega
 clear hkn hkk;have hfl:=h3.fl;have hz:=h3.ok.z;have hsz:n.slot0+sn<a.dF.length:=by unfold CaN.size at hfl;unfold CaN.slot0;omega
 have hsz2:n.slot0+sn<8192:=by omega
 obtain⟨sc,hsc⟩:=qqe (n.slot0+sn);have k1:IntKind.i64.wrap ((n.slot0:Int)+(sn:Int))=(sc:Int):=by rw[hsc,qxt];exact qxv _ (by omega)
 have K2:Hid ((n.slot0:Int)+(sn:Int)=(sc:Int)):=by show _=_;rw[hsc,qxt]
 rw[<-hsc]at hR hsz;obtain⟨e0,-,-,-,-,-,-,-,-⟩:=h3.cells;obtain⟨-,-,-,e5⟩:=h3.lay;have e5:w3.cell? ⟨c,12,none⟩=some (.int .i64 (n.slot0:Int)):=by rw[e5];congr 2
 have ep:=za gp 0;simp at ep;have hpl:=zd gp;have hml:=zd g3;have hud:=((uur (fun _=>False) w3).drew)
 obtain⟨wd,hwd⟩:=qqe (w3.drew);rw[<-hwd]at hud;have hd:=h3.new hud;have dd:=d3.trans (h3.didNew hud);have gd:=hud.blockv g3;have epd:=hud.cellv ep (fun h=>h);have e0d:=hud.cellv e0 (fun h=>h);have e5d:=hud.cellv e5 (fun h=>h);have hcd:=hd.clt;have hmn:own2 m=0/\own2 pb=0:=⟨hmo,hpo⟩
 have HD:=Y10 hd dd gd hmn hR hsz hpm hk0 hk4 hwd;have hpd:pb<wd.heap.size:=by have:=hud.size;omega
 have hmd:m<wd.heap.size:=by have:=hud.size;omega
 clear h3 d3 g3 hmo hpo gp hR hfl hz hsz hsz2 hsc hpl hml hud hd dd gd hmn hpm hk0 hk4 e0 e5 ep hwd;go_upto_region 8 with fail
 rw[<-HW3.o,<-HPB.o];refine qZj (S:=fun W=>W.cell? ⟨c,14,none⟩=some (ptr p.ssd)/\W.cell? ⟨c,12,none⟩=some (.int .i64 (n.slot0:Int))/\W.cell? ⟨pb,0,none⟩=some (.int .i64 (sn:Int))) (by kernel_rfl) (by rw[<-HD.o.2.2.2.2.2.2.2.2.2];exact⟨e0d,e5d,epd⟩) (fun hHeld=>?_);rw[<-HD.o.2.2.2.2.2.2.2.2.2]at hHeld⊢;refine Wl.i [0,1,2,3,4,5,6,7,8,9,10,11] ?_;iterate 12 refine Wl.t hHeld ?_
 refine Wl.o ?_;refine qZe (rs:=[12,16]) (by kernel_rfl) (by simp) ?_;refine qxb rfl (fun K hK=>?_) (qxb rfl (fun K hK=>?_) qxc)
 .go_simp
  obtain⟨hd,dd,gd,hmn,hR,hsz,hpm,hk0,hk4,-⟩:=HD.o;refine(uZ hd sc hsz).mono ?_;rintro e w4 ⟨y,cd,hy,hcd,hyl,rfl,own4,h4,hd4⟩;have HY:=Y2 hy hcd;clear hy hcd;have g4:=(hd4.upd.block m hmd (fun h=>h.1 hmn.1)).trans gd;have d4:=dd.trans hd4;have hmo4:own4 m=0:=(hd4.old m hmd).trans hmn.1;obtain⟨i0,-,-,-,-,-,-,-,-⟩:=h4.cells;obtain⟨-,-,-,i5⟩:=h4.lay;have i5:w4.cell? ⟨c,12,none⟩=some (.int .i64 (n.slot0:Int)):=by rw[i5];congr 2
  have ip:=hd4.upd.cellv epd (fun h=>h.1 hmn.2);obtain⟨w5,hw5⟩:=qqe (w4.alloc (.cells (bkC Z).toArray 54));have hu5:Upd (fun _=>False) w4 w5:=by rw[hw5];exact(uur _ w4).alloc _
  obtain⟨g,hg⟩:=qqe (w4.heap.size);have gg5:w5.heap[g]?=some (.cells (bkC Z).toArray 54 (0,0)):=by rw[hw5,hg];exact zc w4 _ rfl
  have h5:=h4.new hu5;have d5:=d4.trans (h4.didNew hu5);have g5:=hu5.blockv g4;have hgo:own4 g=0:=h4.far g (by omega);have hgm:w.heap.size<=g:=by have:=d4.upd.size;omega
  have hgp:g≠pb:=by have:=hd4.upd.size;omega
  have hgm2:g≠m:=by have:=hd4.upd.size;omega
  have hgc:g≠c:=by have:=h4.clt;omega
  have hgn:g≠0/\g≠1:=by have h1:=h4.nib.lt;have h2:=h4.tur.lt;constructor<;>omega
  have j0:=hu5.cellv i0 (fun h=>h);have j5:=hu5.cellv i5 (fun h=>h);have jp:=hu5.cellv ip (fun h=>h);have HW:=Y2 hw5 hg;clear hw5 hg hu5 h4 d4 hd4 g4 hmn gd dd hd;refine hK.o _ _ (⟨i0,i5,ip⟩) (fun hH1=>?_);clear hK K;refine Wl.i [13,14,15] ?_;iterate 3 refine Wl.t hH1 ?_
  refine Wl.o ?_;refine Wl.r 16 (fun K hK=>?_);refine qv rfl _ rfl _ (vz Z HZ.o.1) ?_;rw[<-HW.o.1,<-HW.o.2];simp only[Act.put,qXi];refine hK.o _ _ (⟨j0,j5,jp⟩) (fun hH2=>?_);clear hK K;refine Wl.r 17 (fun K hK=>?_);rw[if_pos (by rfl)];have hthg:=xe gg5 (by rw[zo];exact hZl);obtain⟨h6,d6⟩:=xN h5 d5 hgo hgm hgn.1 hgn.2 (bkC y);have r6:(w5.setCells g 0 (bkC y)).rangeAt g 0 (bkC y):=qYr _ _ _ _ (by rw[zo,hyl];exact hthg);have hus:=zp w5 g 0 (bkC y);have g6:=(hus.block m (zd g5) (fun e=>hgm2 e.symm)).trans g5;have l0:=hus.cellv j0 (fun e=>hgc e.symm);have l5:=hus.cellv j5 (fun e=>hgc e.symm);have lp:=hus.cellv jp (fun e=>hgp e.symm);refine qZk _ _ _ rfl _ _ (bkC y).toArray rfl rfl (by rw[zl _ hyl];exact hthg) (by rw[zl _ hyl];exact zF) (qYu (zv _)) ?_;simp only[Act.put];refine hK.o _ _ (⟨l0,l5,lp⟩) (fun hH3=>?_);clear hK K;refine Wl.r 18 (fun K hK=>?_);go_simp
  refine hK.o _ _ (hH3) (fun _=>?_);clear hK K;refine Wl.d ?_;obtain⟨w6,hw6⟩:=qqe (w5.setCells g 0 (bkC y));rw[<-hw6]at h6 d6 r6 g6⊢;have hgo6:own4 g=0:=hgo;have H6:=Y13 h6 d6 r6 g6 hmo4 hR HY.o.1 HY.o.2 hgo6 hgm hgm2 hk0 hk4;clear h6 d6 r6 g6 hmo4 hR HY hgo6 hgo hgm hgm2 hgp hgn hk0 hk4 h5 d5 gg5 g5 j0 j5 jp i0 i5 ip l0 l5 lp hus hthg hw6 hHeld hH1 hH2 hH3 HW hgc e0d e5d epd;by_cases hc:cd=0
  rotate_left
  .have q0:(cd==0)=false:=by simpa using hc
   obtain⟨h6,d6,-,g6,hmo4,hR,hy,hcd,-⟩:=H6.o;have hf:fate a.dP=1:=by
    refine Decidable.byContradiction fun hf=>?_;rw[if_neg hf]at hcd;exact hc hcd
   rw[if_pos hf]at hR hcd;have hth:=xe g6 (by rw[zo];rfl);obtain⟨h7,d7⟩:=xN h6 d6 hmo4 HM.o.2.2 HM.o.1 HM.o.2.1 (bkC Z);have H7:=Y4 h7 d7 hR hcd;clear h6 d6 g6 hmo4 hR hy hcd h7 d7 hf H6;go_wp2_with (first
    |(refine zX rfl rfl HZ.o.2 ?_)
    |(refine qZi rfl _ _ _ rfl _ _ (bkC Z).toArray rfl rfl (by rw[zl _ hZl];exact hth) (by rw[zl _ hZl];exact zF) (qYu (zv _)) ?_)
    |fail)
   obtain⟨h7,d7,hR,hcd⟩:=H7.o;refine qYw (zn rfl _ _ m 0 (bkC Z) _ rfl (qYr _ _ _ _ (by rw[zo,hZl];exact hth)) Tryz.underlying54 rfl (zt Z hZl)) rfl ?_;rw[hR];exact⟨Z,cd,HZ.o.1,hcd,hZl,rfl,own4,h7,d7⟩
  subst hc;obtain⟨h6,d6,r6,g6,hmo4,hR,hy,hcd,hgo6,hgm,hgm2,hk0,hk4⟩:=H6.o;have hf:¬fate a.dP=1:=fun hf=>by rw[if_pos hf]at hcd;cases hcd
  rw[if_neg hf]at hR hy;rw[<-hy]at hR;have hud:=((uur (fun _=>False) w6).drew)
  obtain⟨w7,hw7⟩:=qqe (w6.drew);rw[<-hw7]at hud;obtain⟨w8,hw8⟩:=qqe (w7.alloc (.cells #[.slice (some ⟨g,0,none⟩) 64 64] 205));have hu8:Upd (fun _=>False) w7 w8:=by rw[hw8];exact(uur _ w7).alloc _
  have g8:w8.heap[w7.heap.size]?=some (.cells #[.slice (some ⟨g,0,none⟩) 64 64] 205 (0,0)):=by rw[hw8];exact zc w7 _ rfl
  have h7:=h6.new hud;have h8:=h7.new hu8;have r8:=hu8.range (hud.range r6 (fun h=>h)) (fun h=>h);obtain⟨sm,hsm⟩:=qqe ((a.sums k).getD 0);rw[<-hsm]at hR;have hMM:∀X,Upd (fun _=>False) w6 X->X.cell? ⟨c,22,none⟩=some (.map (some p.sm))/\(Instr.lookup 116 (.map (some p.sm)) (.int .i64 k) false).run Tryz.prog X=.ok (.int .i64 (sm:Int)) X:=by
   intro X hX;have hCA:=h6.new hX;obtain⟨-,-,-,-,-,-,-,-,c22⟩:=hCA.cells;refine⟨c22,?_⟩;rw[hsm];exact hCA.sm.1.look1 (by omega) (by omega)
  have m7:=hMM _ hud;have m8:=hMM _ (hud.trans hu8);have HS:=qqh (vN (cl:=1) y h8.nib (za g8 0) r8 hyl (by omega) (by omega));have HM9:Hid (∀w9,Below w8.heap.size w8 w9->(CaAt own4 w9 c n p {a with dP:=a.dP.tail}/\Did own own4 w w9)/\w9.rangeAt g 0 (bkC y)/\w9.heap[m]?=some (.cells (bkC zB).toArray 54 (0,0))/\(w9.cell? ⟨c,22,none⟩=some (.map (some p.sm))/\(Instr.lookup 116 (.map (some p.sm)) (.int .i64 k) false).run Tryz.prog w9=.ok (.int .i64 (sm:Int)) w9)):=by
   intro w9 hb9;have hu9:=(hud.trans hu8).trans (uuo (S:=fun _=>False) hb9);exact⟨⟨h6.new hu9,d6.trans (h6.didNew hu9)⟩,hu9.range r6 (fun h=>h),hu9.blockv g6,hMM _ hu9⟩
  have HX:=Y6 hR hmo4 hw7 hw8 hsm hgm2;clear h6 d6 r6 g6 hmo4 hR hy hcd hgo6 hgm hgm2 hf hud hu8 g8 h7 h8 r8 hMM hw7 hw8 hsm H6 hk0 hk4;go_upto_region 11 with fail
  refine qZj (S:=fun W=>W.cell? ⟨c,22,none⟩=some (.map (some p.sm))/\(Instr.lookup 116 (.map (some p.sm)) (.int .i64 k) false).run Tryz.prog W=.ok (.int .i64 (sm:Int)) W) (by kernel_rfl) (by rw[<-HX.o.2.2.1];exact m7) (fun _=>?_);rw[<-HX.o.2.2.1];have hHeld:=m7;refine Wl.i [0,3,4,5,6,7,8] ?_;iterate 7 refine Wl.t hHeld ?_
  refine Wl.o ?_;refine Wl.r 1 (fun K hK=>?_);go_simp
  rw[<-HX.o.2.2.2.1];refine hK.o _ _ (m8) (fun hH1=>?_);clear hK K;refine Wl.r 2 (fun K hK=>?_);go_simp
  refine HS.o.mono ?_;rintro e w9 ⟨rfl,hb9⟩;obtain⟨hcd9,r9,g9,m9⟩:=HM9.o w9 hb9;have H9:=Y3 hcd9 r9 g9;refine hK.o _ _ (m9) (fun hH2=>?_);clear hK K;refine Wl.i [9] (Wl.t hH2 (Wl.o ?_));refine Wl.d ?_;clear hHeld hH1 hH2 m7 m8 m9 HS HM9 hb9 hcd9 g9;obtain⟨hR,hmo4,-,-,-,-⟩:=HX.o;have hth:=xe H9.o.2.2 (by rw[zo];rfl);by_cases hq:crcC y=sm
  rotate_left
  .rw [if_neg hq]at hR;have q1:((crcC y:Int)==(sm:Int))=false:=by simpa using fun e=>hq (by omega)
   have q2:((crcC y:Int) !=(sm:Int))=true:=by simp[bne,q1]
   obtain⟨h7,d7⟩:=xN H9.o.1.1 H9.o.1.2 hmo4 HM.o.2.2 HM.o.1 HM.o.2.1 (bkC Z);have H7:=Y3 h7 d7 hR;clear h7 d7 hR hmo4 r9 hq;go_wp2_with (first
    |(refine zX rfl rfl HZ.o.2 ?_)
    |(refine qZi rfl _ _ _ rfl _ _ (bkC Z).toArray rfl rfl (by rw[zl _ hZl];exact hth) (by rw[zl _ hZl];exact zF) (qYu (zv _)) ?_)
    |fail)
   obtain⟨h7,d7,hR⟩:=H7.o;refine qYw (zn rfl _ _ m 0 (bkC Z) _ rfl (qYr _ _ _ _ (by rw[zo,hZl];exact hth)) Tryz.underlying54 rfl (zt Z hZl)) rfl ?_;rw[hR];exact⟨Z,13,HZ.o.1,rfl,hZl,rfl,own4,h7,d7⟩
  rw[if_pos hq]at hR;have q1:((crcC y:Int)==(sm:Int))=true:=by rw[hq];simp
  have q2:((crcC y:Int) !=(sm:Int))=false:=by simp[bne,q1]
  obtain⟨h7,d7⟩:=xN H9.o.1.1 H9.o.1.2 hmo4 HM.o.2.2 HM.o.1 HM.o.2.1 (bkC y);have H7:=Y3 h7 d7 hR;clear h7 d7 hR hmo4 hq;go_wp2_with (first
   |(refine qZg rfl _ _ rfl _ _ rfl _ _ r9 Tryz.underlying54 rfl (zt y hyl) ?_)
   |(refine qZi rfl _ _ _ rfl _ _ (bkC y).toArray rfl rfl (by rw[zl _ hyl];exact hth) (by rw[zl _ hyl];exact zF) (qYu (zv _)) ?_)
   |fail)
  obtain⟨h7,d7,hR⟩:=H7.o;refine qYw (zn rfl _ _ m 0 (bkC y) _ rfl (qYr _ _ _ _ (by rw[zo,hyl];exact hth)) Tryz.underlying54 rfl (zt y hyl)) rfl ?_;rw[hR];exact⟨y,0,rfl,rfl,hyl,rfl,own4,h7,d7⟩
 .refine qv rfl _ rfl _ (vz Z HZ.o.1) ?_;simp only[Act.put,qXi];obtain⟨hd,dd,gd,hmn,hR,hsz,hpm,hk0,hk4,-⟩:=HD.o;obtain⟨w4,hw4⟩:=qqe (wd.alloc (.cells (bkC Z).toArray 54));have hu4:Upd (fun _=>False) wd w4:=by rw[hw4];exact(uur _ wd).alloc _
  obtain⟨g,hg⟩:=qqe (wd.heap.size);have gg4:w4.heap[g]?=some (.cells (bkC Z).toArray 54 (0,0)):=by rw[hw4,hg];exact zc wd _ rfl
  rw[<-hw4,<-hg];have i0:=hu4.cellv e0d (fun h=>h);have i5:=hu4.cellv e5d (fun h=>h);have ip:=hu4.cellv epd (fun h=>h);have h4:=hd.new hu4;have d4:=dd.trans (hd.didNew hu4);have g4:=hu4.blockv gd;have hgo2:own2 g=0:=hd.far g (by omega);have hgm:w.heap.size<=g:=by have:=dd.upd.size;omega
  have hgp:g≠pb:=by omega
  have hgm2:g≠m:=by omega
  have hgc:g≠c:=by omega
  have hgn:g≠0/\g≠1:=by have h1:=hd.nib.lt;have h2:=hd.tur.lt;constructor<;>omega
  have HQ:=qqh (uZ h4 sc hsz);have H4:=Y6 d4 g4 gg4 hgo2 hmn hR;have HW:=Y2 hw4 hg;clear hw4 hg hu4 h4 d4 g4 gg4 hgo2 hmn hR dd gd hd;refine hK.o _ _ (⟨i0,i5,ip⟩) (fun hH1=>?_);clear hK K;refine Wl.r 12 (fun K hK=>?_);go_simp
  refine HQ.o.mono ?_;rintro e w5 ⟨y,cd,hy,hcd,hyl,rfl,own4,h5,hd5⟩;have HY:=Y2 hy hcd;clear hy hcd HQ;obtain⟨d4,g4,gg4,hgo2,hmn,hR⟩:=H4.o;have g5:=(hd5.upd.block m (zd g4) (fun h=>h.1 hmn.1)).trans g4;have gg5:=(hd5.upd.block g (zd gg4) (fun h=>h.1 hgo2)).trans gg4;have d5:=d4.trans hd5;have hmo4:own4 m=0:=(hd5.old m (zd g4)).trans hmn.1;have hgo:own4 g=0:=(hd5.old g (zd gg4)).trans hgo2;obtain⟨j0,-,-,-,-,-,-,-,-⟩:=h5.cells;obtain⟨-,-,-,j5⟩:=h5.lay;have j5:w5.cell? ⟨c,12,none⟩=some (.int .i64 (n.slot0:Int)):=by rw[j5];congr 2
  have jp:=hd5.upd.cellv ip (fun h=>h.1 hmn.2);clear d4 g4 gg4 hgo2 hmn hd5 H4;refine hK.o _ _ (⟨j0,j5,jp⟩) (fun hH2=>?_);clear hK K;refine Wl.i [13,14,15] ?_;iterate 3 refine Wl.t hH2 ?_
  refine Wl.o ?_;refine Wl.r 17 (fun K hK=>?_);rw[if_pos (by rfl)];have hthg:=xe gg5 (by rw[zo];exact hZl);obtain⟨h6,d6⟩:=xN h5 d5 hgo hgm hgn.1 hgn.2 (bkC y);have r6:(w5.setCells g 0 (bkC y)).rangeAt g 0 (bkC y):=qYr _ _ _ _ (by rw[zo,hyl];exact hthg);have hus:=zp w5 g 0 (bkC y);have g6:=(hus.block m (zd g5) (fun e=>hgm2 e.symm)).trans g5;have l0:=hus.cellv j0 (fun e=>hgc e.symm);have l5:=hus.cellv j5 (fun e=>hgc e.symm);have lp:=hus.cellv jp (fun e=>hgp e.symm);refine qZk _ _ _ rfl _ _ (bkC y).toArray rfl rfl (by rw[zl _ hyl];exact hthg) (by rw[zl _ hyl];exact zF) (qYu (zv _)) ?_;simp only[Act.put,qXi];refine hK.o _ _ (⟨l0,l5,lp⟩) (fun hH3=>?_);clear hK K;refine Wl.r 18 (fun K hK=>?_);go_simp
  refine hK.o _ _ (hH3) (fun _=>?_);clear hK K;refine Wl.d ?_;obtain⟨w6,hw6⟩:=qqe (w5.setCells g 0 (bkC y));rw[<-hw6]at h6 d6 r6 g6⊢;have hgo6:own4 g=0:=hgo;have H6:=Y13 h6 d6 r6 g6 hmo4 hR HY.o.1 HY.o.2 hgo6 hgm hgm2 hk0 hk4;clear h6 d6 r6 g6 hmo4 hR HY hgo6 hgo hgm hgm2 hgp hgn hk0 hk4 h5 d5 gg5 g5 j0 j5 jp i0 i5 ip l0 l5 lp hus hthg hw6 hHeld hH1 hH2 hH3 HW hgc e0d e5d epd;by_cases hc:cd=0
  rotate_left
  .have q0:(cd==0)=false:=by simpa using hc
   obtain⟨h6,d6,-,g6,hmo4,hR,hy,hcd,-⟩:=H6.o;have hf:fate a.dP=1:=by
    refine Decidable.byContradiction fun hf=>?_;rw[if_neg hf]at hcd;exact hc hcd
   rw[if_pos hf]at hR hcd;have hth:=xe g6 (by rw[zo];rfl);obtain⟨h7,d7⟩:=xN h6 d6 hmo4 HM.o.2.2 HM.o.1 HM.o.2.1 (bkC Z);have H7:=Y4 h7 d7 hR hcd;clear h6 d6 g6 hmo4 hR hy hcd h7 d7 hf H6;go_wp2_with (first
    |(refine zX rfl rfl HZ.o.2 ?_)
    |(refine qZi rfl _ _ _ rfl _ _ (bkC Z).toArray rfl rfl (by rw[zl _ hZl];exact hth) (by rw[zl _ hZl];exact zF) (qYu (zv _)) ?_)
    |fail)
   obtain⟨h7,d7,hR,hcd⟩:=H7.o;refine qYw (zn rfl _ _ m 0 (bkC Z) _ rfl (qYr _ _ _ _ (by rw[zo,hZl];exact hth)) Tryz.underlying54 rfl (zt Z hZl)) rfl ?_;rw[hR];exact⟨Z,cd,HZ.o.1,hcd,hZl,rfl,own4,h7,d7⟩
  subst hc;obtain⟨h6,d6,r6,g6,hmo4,hR,hy,hcd,hgo6,hgm,hgm2,hk0,hk4⟩:=H6.o;have hf:¬fate a.dP=1:=fun hf=>by rw[if_pos hf]at hcd;cases hcd
  rw[if_neg hf]at hR hy;rw[<-hy]at hR;have hud:=((uur (fun _=>False) w6).drew)
  obtain⟨w7,hw7⟩:=qqe (w6.drew);rw[<-hw7]at hud;obtain⟨w8,hw8⟩:=qqe (w7.alloc (.cells #[.slice (some ⟨g,0,none⟩) 64 64] 205));have hu8:Upd (fun _=>False) w7 w8:=by rw[hw8];exact(uur _ w7).alloc _
  have g8:w8.heap[w7.heap.size]?=some (.cells #[.slice (some ⟨g,0,none⟩) 64 64] 205 (0,0)):=by rw[hw8];exact zc w7 _ rfl
  have h7:=h6.new hud;have h8:=h7.new hu8;have r8:=hu8.range (hud.range r6 (fun h=>h)) (fun h=>h);obtain⟨sm,hsm⟩:=qqe ((a.sums k).getD 0);rw[<-hsm]at hR;have hMM:∀X,Upd (fun _=>False) w6 X->X.cell? ⟨c,22,none⟩=some (.map (some p.sm))/\(Instr.lookup 116 (.map (some p.sm)) (.int .i64 k) false).run Tryz.prog X=.ok (.int .i64 (sm:Int)) X:=by
   intro X hX;have hCA:=h6.new hX;obtain⟨-,-,-,-,-,-,-,-,c22⟩:=hCA.cells;refine⟨c22,?_⟩;rw[hsm];exact hCA.sm.1.look1 (by omega) (by omega)
  have m7:=hMM _ hud;have m8:=hMM _ (hud.trans hu8);have HS:=qqh (vN (cl:=1) y h8.nib (za g8 0) r8 hyl (by omega) (by omega));have HM9:Hid (∀w9,Below w8.heap.size w8 w9->(CaAt own4 w9 c n p {a with dP:=a.dP.tail}/\Did own own4 w w9)/\w9.rangeAt g 0 (bkC y)/\w9.heap[m]?=some (.cells (bkC zB).toArray 54 (0,0))/\(w9.cell? ⟨c,22,none⟩=some (.map (some p.sm))/\(Instr.lookup 116 (.map (some p.sm)) (.int .i64 k) false).run Tryz.prog w9=.ok (.int .i64 (sm:Int)) w9)):=by
   intro w9 hb9;have hu9:=(hud.trans hu8).trans (uuo (S:=fun _=>False) hb9);exact⟨⟨h6.new hu9,d6.trans (h6.didNew hu9)⟩,hu9.range r6 (fun h=>h),hu9.blockv g6,hMM _ hu9⟩
  have HX:=Y6 hR hmo4 hw7 hw8 hsm hgm2;clear h6 d6 r6 g6 hmo4 hR hy hcd hgo6 hgm hgm2 hf hud hu8 g8 h7 h8 r8 hMM hw7 hw8 hsm H6 hk0 hk4;go_upto_region 11 with fail
  refine qZj (S:=fun W=>W.cell? ⟨c,22,none⟩=some (.map (some p.sm))/\(Instr.lookup 116 (.map (some p.sm)) (.int .i64 k) false).run Tryz.prog W=.ok (.int .i64 (sm:Int)) W) (by kernel_rfl) (by rw[<-HX.o.2.2.1];exact m7) (fun _=>?_);rw[<-HX.o.2.2.1];have hHeld:=m7;refine Wl.i [0,3,4,5,6,7,8] ?_;iterate 7 refine Wl.t hHeld ?_
  refine Wl.o ?_;refine Wl.r 1 (fun K hK=>?_);go_simp
  rw[<-HX.o.2.2.2.1];refine hK.o _ _ (m8) (fun hH1=>?_);clear hK K;refine Wl.r 2 (fun K hK=>?_);go_simp
  refine HS.o.mono ?_;rintro e w9 ⟨rfl,hb9⟩;obtain⟨hcd9,r9,g9,m9⟩:=HM9.o w9 hb9;have H9:=Y3 hcd9 r9 g9;refine hK.o _ _ (m9) (fun hH2=>?_);clear hK K;refine Wl.i [9] (Wl.t hH2 (Wl.o ?_));refine Wl.d ?_;clear hHeld hH1 hH2 m7 m8 m9 HS HM9 hb9 hcd9 g9;obtain⟨hR,hmo4,-,-,-,-⟩:=HX.o;have hth:=xe H9.o.2.2 (by rw[zo];rfl);by_cases hq:crcC y=sm
  rotate_left
  .rw [if_neg hq]at hR;have q1:((crcC y:Int)==(sm:Int))=false:=by simpa using fun e=>hq (by omega)
   have q2:((crcC y:Int) !=(sm:Int))=true:=by simp[bne,q1]
   obtain⟨h7,d7⟩:=xN H9.o.1.1 H9.o.1.2 hmo4 HM.o.2.2 HM.o.1 HM.o.2.1 (bkC Z);have H7:=Y3 h7 d7 hR;clear h7 d7 hR hmo4 r9 hq;go_wp2_with (first
    |(refine zX rfl rfl HZ.o.2 ?_)
    |(refine qZi rfl _ _ _ rfl _ _ (bkC Z).toArray rfl rfl (by rw[zl _ hZl];exact hth) (by rw[zl _ hZl];exact zF) (qYu (zv _)) ?_)
    |fail)
   obtain⟨h7,d7,hR⟩:=H7.o;refine qYw (zn rfl _ _ m 0 (bkC Z) _ rfl (qYr _ _ _ _ (by rw[zo,hZl];exact hth)) Tryz.underlying54 rfl (zt Z hZl)) rfl ?_;rw[hR];exact⟨Z,13,HZ.o.1,rfl,hZl,rfl,own4,h7,d7⟩
  rw[if_pos hq]at hR;have q1:((crcC y:Int)==(sm:Int))=true:=by rw[hq];simp
  have q2:((crcC y:Int) !=(sm:Int))=false:=by simp[bne,q1]
  obtain⟨h7,d7⟩:=xN H9.o.1.1 H9.o.1.2 hmo4 HM.o.2.2 HM.o.1 HM.o.2.1 (bkC y);have H7:=Y3 h7 d7 hR;clear h7 d7 hR hmo4 hq;go_wp2_with (first
   |(refine qZg rfl _ _ rfl _ _ rfl _ _ r9 Tryz.underlying54 rfl (zt y hyl) ?_)
   |(refine qZi rfl _ _ _ rfl _ _ (bkC y).toArray rfl rfl (by rw[zl _ hyl];exact hth) (by rw[zl _ hyl];exact zF) (qYu (zv _)) ?_)
   |fail)
  obtain⟨h7,d7,hR⟩:=H7.o;refine qYw (zn rfl _ _ m 0 (bkC y) _ rfl (qYr _ _ _ _ (by rw[zo,hyl];exact hth)) Tryz.underlying54 rfl (zt y hyl)) rfl ?_;rw[hR];exact⟨y,0,rfl,rfl,hyl,rfl,own4,h7,d7⟩
end
theorem TU(n:Nat):madeCells #[Value.map none] (n*1)=Array.replicate n (Value.map none):=by
 apply Array.ext
 .simp [size_madeCells]
 .intro i h1 h2;have:i%1=0:=Nat.mod_one i;simp[madeCells,this]
theorem Sq:(Tryz.prog.info? 331).map (fun i=>(i.zero,i.size,i.bytes))=some (some (.map none),1,8):=by kernel_rfl
structure LgTo(W w:World)(g n k:Nat)(M:List (Nat×(Int->Bool))):Prop where
 sl:Sl w 331 1 (.slice (some ⟨g,0,none⟩) n n) n (LgC M++List.replicate (n-k) (.map none))
 len:M.length=k
 sets:∀p∈M,SetAt w p.1 4097 p.2/\p.2=fun _=>false
 nd:(M.map (·.1)).Nodup
 lo:∀p∈M,W.heap.size+2<=p.1
theorem Sr{S:Nat->Prop}(n bl:Nat)(w:World)(hn:∀j,w.heap.size<=j->S j)(h1:1<=n)(h2:n<=1024)(h3:1<=bl)(h4:bl<=4096):
  Calls Tryz.prog 134 #[.int .i64 (n:Int),.int .i64 (bl:Int)] w fun e w'=>∃b,e=.returned (.tuple #[.pointer (some ⟨b,0,none⟩),.int .i64 0])/\
   Lg S w' b bl (List.replicate n (fun _=>false))/\Below w.heap.size w w'/\w.heap.size<=b:=by
 obtain⟨i0,hi,hz0,hz1,hz2⟩:=qZa Sq;have hmm:= @run_makeMap Tryz.prog;have hmk:∀w:World,(Instr.makeSlice 328 (.int .i64 n) (.int .i64 n)).run Tryz.prog w=.ok (.slice (some ⟨w.heap.size,0,none⟩) n n) (w.alloc (.cells (Array.replicate n (Value.map none)) 331)):=by
  intro w;have:=run_make (P:=Tryz.prog) w 328 331 i0 (.map none) Tryz.underlying328 hi hz0 .i64 .i64 n n (by omega) (by omega) (by rw[hz2];omega) (by omega);rw[this];simp only[qxu,hz1,Value.cells];rw[TU]
 have q1:decide ((n:Int)<1)=false:=by simp;omega
 have q2:decide (1024<(n:Int))=false:=by simp;omega
 have q3:decide ((bl:Int)<1)=false:=by simp;omega
 have q4:decide (4096<(bl:Int))=false:=by simp;omega
 clear hi hz0 hz1 hz2;go_enter Tryz.func134,Tryz.ntmps134
 go_wp2
 have ha:((w.alloc (.cells (Array.replicate n (Value.map none)) 331)).alloc (.cells #[.int .i64 (bl:Int),.slice (some ⟨w.heap.size,0,none⟩) n n] 330)).heap[w.heap.size]?=some (.cells (Array.replicate n (Value.map none)) 331):=by
  rw[qxk _ _ _ (by simp)];exact zc w _ rfl
 have hb:=zc (w.alloc (.cells (Array.replicate n (Value.map none)) 331)) (.cells #[.int .i64 (bl:Int),.slice (some ⟨w.heap.size,0,none⟩) n n] 330) (n:=w.heap.size+1) (by simp);have hB:=((qxl w.heap.size w).alloc (qXv _) (.cells (Array.replicate n (Value.map none)) 331)).alloc (by simp) (.cells #[.int .i64 (bl:Int),.slice (some ⟨w.heap.size,0,none⟩) n n] 330);have hsz:((w.alloc (.cells (Array.replicate n (Value.map none)) 331)).alloc (.cells #[.int .i64 (bl:Int),.slice (some ⟨w.heap.size,0,none⟩) n n] 330)).heap.size=w.heap.size+2:=by simp
 have hsl:Sl ((w.alloc (.cells (Array.replicate n (Value.map none)) 331)).alloc (.cells #[.int .i64 (bl:Int),.slice (some ⟨w.heap.size,0,none⟩) n n] 330)) 331 1 (.slice (some ⟨w.heap.size,0,none⟩) n n) n (List.replicate n (Value.map none)):=
  ⟨by simp,.inr ⟨w.heap.size,0,n,_,rfl,ha,qXv _,by unfold maxLen;omega,by simp,fun j u hj=>by rw[qYe,<-List.toArray_replicate,qyv];exact hj⟩⟩
 generalize (w.alloc (.cells (Array.replicate n (Value.map none)) 331)).alloc (.cells #[.int .i64 (bl:Int),.slice (some ⟨w.heap.size,0,none⟩) n n] 330)=w2 at*;have HB:=Y5 hb hB hsz hsl hn;clear ha hb hB hsz hsl hn hmk;go_loopw[32] (fun s32 wr=>∃k:Nat,k<=n/\s32=.int .i64 k/\(∃M,LgTo w wr w.heap.size n k M)/\Upd (fun j=>j=w.heap.size) w2 wr) (fun s32 _=>n-(intOf s32).toNat)
 case atStart=>exact⟨0,by omega,rfl,⟨[],by simpa using HB.o.2.2.2.1,rfl,by simp,by simp,by simp⟩,uur _ _⟩
 case round=>
  obtain⟨k,hk,rfl,⟨M,hM⟩,hu⟩:=hrel;have hstr:=(hu.block _ (zd HB.o.1) (by omega)).trans HB.o.1;have c1:=za hstr 1;simp at c1;have hge:=hu.size;have hs2:=HB.o.2.2.1;by_cases hlt:k<n
  .have b1:(0:Int)<=(k:Int):=by omega
   have b2:(k:Int)<(n:Int):=by omega
   obtain⟨g',off',cap',cur,he,hg,hoc,hcc⟩:=hM.sl.at (by omega);cases he;have HM:=Y4 hM hu hstr hk;have hc:(wr.alloc (.map #[] 0)).cell? ⟨w.heap.size,k,none⟩=some (.map none):=by
    rw[za ((qxk _ _ _ (zd hg)).trans hg)];have hl:(LgC M).length=k:=by simp[LgC,hM.len]
    have:=hcc k (.map none) (by rw[qyj (by omega),hl,Nat.sub_self,qys,if_pos (by omega)]);simpa using this
   have hf:(wr.alloc (.map #[] 0)).frozen? ⟨w.heap.size,k,none⟩=false:=zf ((qxk _ _ _ (zd hg)).trans hg) k;clear hM hu hstr hg hoc hcc hk;have HX:=Y2 hs2 hge;clear hs2 hge;go_wp2
   go_roundw
   case rel=>
    obtain⟨hM,hu,hstr,hk⟩:=HM.o;obtain⟨hs2,hge⟩:=HX.o;have hal:Upd (fun _=>False) wr (wr.alloc (.map #[] 0)):=(uur _ wr).alloc _;have hsc:Upd (fun j=>j=w.heap.size) (wr.alloc (.map #[] 0)) ((wr.alloc (.map #[] 0)).setCell ⟨w.heap.size,k,none⟩ (.map (some wr.heap.size))):=zi _ _ _ _;refine⟨k+1,by omega,by go_num,⟨M++[(wr.heap.size,fun _=>false)],?_,by simp[hM.len],?_,?_,?_⟩,(hu.trans (hal.mono (fun _ _ h=>h.elim))).trans hsc⟩
    .have h3:=(hM.sl.keep hal (fun _ _ h=>h)).setAt k (by omega) (.map (some wr.heap.size));rw[qYe]at h3;have e:(LgC M++List.replicate (n-k) (Value.map none)).set k (.map (some wr.heap.size))=LgC (M++[(wr.heap.size,fun _=>false)])++List.replicate (n-(k+1)) (.map none):=by
      have:n-k=(n-(k+1))+1:=by omega
      rw[this,List.replicate_succ,qXj _ _ (by simp[hM.len])];simp[hM.len,LgC]
     rw[e]at h3;exact h3
    .intro p hp;rcases qzq.1 hp with hp|hp
     .refine ⟨((hM.sets p hp).1.keep hal (fun h=>h)).keep hsc (fun e=>?_),(hM.sets p hp).2⟩;have:=hM.lo p hp;omega
     .simp at hp;subst hp;exact⟨((SetAt.made wr).mono (by omega)).keep hsc (fun e=>by have e':wr.heap.size=w.heap.size:=e;omega),rfl⟩
    .rw [qzl,qXa];refine⟨hM.nd,by simp,?_⟩;intro x hx y hy e;simp at hy;subst hy;obtain⟨p,hp,rfl⟩:=qzv.1 hx;have:=(hM.sets p hp).1.lt;omega
    .intro p hp;rcases qzq.1 hp with hp|hp
     .exact hM.lo p hp
     .simp at hp;subst hp;show _<=wr.heap.size;omega
   case measure=>simp[intOf];omega
  .obtain rfl:k=n:=by omega
   have HM:=Y3 hM hu hstr;clear hM hu hstr hk hge hs2;go_wp2
   go_ret2
   obtain⟨hM,hu,hstr⟩:=HM.o;obtain⟨hb,hB,hsz,-,hn⟩:=HB.o;have hMM:∀p∈M,p.1<wr.heap.size:=fun p hp=>(hM.sets p hp).1.lt;refine⟨w.heap.size+1,rfl,⟨.slice (some ⟨w.heap.size,0,none⟩) k k,M,⟨hstr,by have:=hM.sl;rw[hM.len];simpa using this,fun p hp=>(hM.sets p hp).1,hM.nd,fun p hp=>⟨?_,?_⟩,by simp[Value.ownBlock],by rw[hM.len];exact h2,⟨h3,h4⟩,fun p hp s hs=>?_⟩,?_,?_⟩,zj hB hu (by omega) (fun j e=>by omega),by omega⟩
   .have:=hM.lo p hp;omega
   .have:=hM.lo p hp;simp[Value.ownBlock];omega
   .rw [(hM.sets p hp).2]at hs;simp at hs
   .apply qye (by simp[hM.len]);intro i h1 h2;simp only[qyy,List.getElem_replicate];exact(hM.sets _ (qyz _)).2
   .rintro j (rfl|hj|hj)
    .exact hn _ (by omega)
    .simp [Value.ownBlock]at hj;exact hn _ (by omega)
    .obtain ⟨p,hp,rfl⟩:=qzv.1 hj;exact hn _ (by have:=hM.lo p hp;omega)
end Go.Proofs.YtfhfbpmlnjdfoaaGreatDoor
