/- The index: Drop, Clean, At; Get, Put, Drop, Cl -/
import Derived.Test.YtfhfbpmlnjdfoaaGreatDoorG13
set_option maxRecDepth 100000
set_option maxHeartbeats 1000000
namespace Go.Proofs.YtfhfbpmlnjdfoaaGreatDoor
open Go Go.RowKit
theorem tC{ps:List (Int×Bool)}{n:Nat}(h:n<ps.length):ps.getD n (-1,false)=ps[n]:=by simp[List.getD,h]
theorem vU{w:World}{b mb N:Nat}{v:Value}{ps:List (Int×Bool)}{slots:Nat}(h:IndexAt w b v mb N ps slots)(k:Int):
  Calls Tryz.prog 100 #[.pointer (some ⟨b,0,none⟩),.int .i64 k] w fun e w'=>e=.returned (.tuple #[zN (getV ps k).1 (getV ps k).2,.int .i64 (getC ps k)])/\Below w.heap.size w w':=by
 by_cases ho:k<0\/(ps.length:Int)<=k
 .simp only[getV,getC,if_pos ho];exact RF h k ho
 .obtain ⟨n,rfl⟩:∃n:Nat,k=n:=⟨k.toNat,by omega⟩
  have hn:n<ps.length:=by omega
  simp only[getV,getC,if_neg ho,qxu,tC hn];rcases h.good.each n hn with e|e
  .simp only[e,if_true];exact UY h n hn e
  .have h1:ps[n].1≠-1:=by omega
   have h2:ps[n]≠(-1,false):=fun e=>h1 (by rw[e]);simp only[if_neg h2];exact ZK h n hn h1
theorem RR{w:World}{b mb N:Nat}{v:Value}{ps:List (Int×Bool)}{slots:Nat}(h:IndexAt w b v mb N ps slots)(k s:Int)(d:Bool)(hN:N<maxLen):
  Calls Tryz.prog 203 #[.pointer (some ⟨b,0,none⟩),.int .i64 k,zN s d] w fun e w'=>e=.returned (.tuple #[zN (uy ps slots k s).1 (uy ps slots k s).2,.int .i64 (putC ps slots k s)])/\
   IndexAt w' b v mb (N+1) (putL ps slots k s d) slots/\Upd (ixS v mb) w w':=by
 by_cases ho:k<0\/(ps.length:Int)<=k\/s<0\/(slots:Int)<=s
 .have e:putC ps slots k s=10:=by unfold putC;rw[if_pos ho]
  simp only[uy,putL,e,if_neg (show¬(10:Int)=0 by decide)];exact(RQ h k s d ho).mono fun e w' ⟨he,hb⟩=>⟨he,(h.below hb).mono (qXw _),uuo hb⟩
 .obtain ⟨n,rfl⟩:∃n:Nat,k=n:=⟨k.toNat,by omega⟩
  have hn:n<ps.length:=by omega
  by_cases hm:mayPut ps n s
  .have e:putC ps slots n s=0:=by
    unfold putC;rw[if_neg ho,if_pos (by simpa[mayPut]using hm)]
   simp only[uy,putL,e,if_true,qxu,tC hn];exact JL h n s d hn (by omega) (by omega) hm hN
  .have e:putC ps slots n s=15:=by
    unfold putC;rw[if_neg ho,if_neg (by simpa[mayPut]using hm)]
   simp only[uy,putL,e,if_neg (show¬(15:Int)=0 by decide)];exact(VA h n s d hn (by omega) (by omega) hm).mono fun e w' ⟨he,hb⟩=>⟨he,(h.below hb).mono (qXw _),uuo hb⟩
theorem Tm{α:Type}{l:List α}{i:Nat}{x:α}(h:l[i]?=some x):l.set i x=l:=by
 obtain⟨hi,rfl⟩:=qyp.1 h;exact List.set_getElem_self hi
def dropL(ps:List (Int×Bool))(k:Int):List (Int×Bool):=if getC ps k=0 then ps.set k.toNat (-1,false)else ps
def cleanL(ps:List (Int×Bool))(k:Int):List (Int×Bool):=if getC ps k=0 then ps.set k.toNat ((getV ps k).1,false)else ps
theorem uB{ps:List (Int×Bool)}{slots:Nat}(h:Good ps slots){k:Int}(hc:getC ps k=0):∃(n:Nat) (hn:n<ps.length),k=n/\0<=ps[n].1/\ps[n].1<slots/\getV ps k=ps[n]:=by
 unfold getC at hc;by_cases ho:k<0\/(ps.length:Int)<=k
 .rw [if_pos ho]at hc;cases hc
 .rw [if_neg ho]at hc;obtain⟨n,rfl⟩:∃n:Nat,k=n:=⟨k.toNat,by omega⟩
  have hn:n<ps.length:=by omega
  simp only[qxu,tC hn]at hc;by_cases e:ps[n]=(-1,false)
  .simp [e]at hc
  .refine ⟨n,hn,rfl,?_,?_,?_⟩
   .rcases h.each n hn with e'|e';exact absurd e' e;exact e'.1
   .rcases h.each n hn with e'|e';exact absurd e' e;exact e'.2
   .simp only[getV,if_neg ho,qxu,tC hn,if_neg e]
theorem qd{ps:List (Int×Bool)}{k:Int}(hc:getC ps k≠0):getV ps k=(0,false):=by
 unfold getC at hc;unfold getV;split
 .rfl
 .rename_i h
  rw[if_neg h]at hc;split
  .rfl
  .rename_i h2
   rw[if_neg h2]at hc;exact absurd rfl hc
theorem VB{w:World}{b mb N:Nat}{v:Value}{ps:List (Int×Bool)}{slots:Nat}(h:IndexAt w b v mb N ps slots)(k:Int):
  Calls Tryz.prog 241 #[.pointer (some ⟨b,0,none⟩),.int .i64 k] w fun e w'=>e=.returned (.int .i64 (getC ps k))/\
   IndexAt w' b v mb N (cleanL ps k) slots/\Upd (ixS v mb) w w':=by
 have H:=qqh h;by_cases hc:getC ps k=0
 .obtain ⟨n,hn,rfl,h0,h1,hv⟩:=uB h.good hc;have hL:Hid (cleanL ps n=ps.set n (ps[n].1,false)):=by show _=_;simp[cleanL,hc,hv]
  have hV:=qqh hv;have hle:=h.le;clear hv h;have hC:=hc;rw[hc];clear hc;go_enter Tryz.func241,Tryz.ntmps241
  go_wp2_with fail
  refine(vU H.o n).mono ?_;rintro e w1 ⟨rfl,hb1⟩;have hz1:=hb1.size;have hu1:Upd (fun _=>False) w (w1.alloc (.cells #[.int .i64 ps[n].1,.bool ps[n].2] 95)):=(uuo hb1).alloc _;have hI:=H.o.keep hu1 (fun h=>h) (fun _ _ h=>h);have t0:=za hI.str 0;simp at t0;obtain⟨g,off,cap,cur,rfl,hg,_,hcc⟩:=hI.sl.at (by omega);have e1:=(za hg (off+n*2+1)).trans (hcc (n*2+1) _ (xI hn).2);have f1:=zf hg (off+n*2+1);have hc0:(getC ps n==0)=true:=by simpa using hC
  have HI:=qqh hI;have HU:=qqh hu1;rw[hC,hV.out];clear hg hcc hI hu1 hc0;go_wp2
  go_ret
  have hS:=HI.o.sl.setAt (n*2+1) (by omega) (.bool false);rw[<-qXr off]at hS;have hus:Upd (fun j=>j=g) (w1.alloc (.cells #[.int .i64 ps[n].1,.bool ps[n].2] 95)) ((w1.alloc (.cells #[.int .i64 ps[n].1,.bool ps[n].2] 95)).setCell ⟨g,off+n*2+1,none⟩ (.bool false)):=zi _ _ _ _;have hgb:g≠b:=fun e=>HI.o.ne (by rw[e];rfl);have hgm:g≠mb:=fun e=>HI.o.nv (by rw[e];rfl);rw[hL.out];refine⟨rfl,{str:=(hus.block _ HI.o.blt (fun e=>hgb e.symm)).trans HI.o.str,sl:=?_,map:=?_,good:=HI.o.good.clean hn h0,ne:=HI.o.ne,nm:=HI.o.nm,nv:=HI.o.nv,le:=by simpa using hle,sl1:=HI.o.sl1},?_⟩
  .rw [<-sY,qzj];have e2:(plC ps).set (n*2) (.int .i64 ps[n].1)=plC ps:=Tm (xI hn).1;rw[e2];simpa using hS
  .rw [HI.o.good.atOf_clean hn h0];exact HI.o.map.keep hus (fun e=>hgm e.symm)
  .exact (HU.o.mono (fun _ _ h=>h.elim)).trans (hus.mono (fun j _ e=> .inl (by rw[e];rfl)))
 .have hL:cleanL ps k=ps:=by simp[cleanL,hc]
  rw[hL];obtain⟨c,hcc⟩:=qqe (getC ps k);obtain⟨z,hz⟩:=qqe (getV ps k);rw[<-hcc]at hc;rw[<-hcc];have hc':(c==0)=false:=by simpa using hc
  clear hL h;have HG:=qqh (vU H.o k);rw[<-hcc,<-hz]at HG;clear hcc hz;go_enter Tryz.func241,Tryz.ntmps241
  go_wp2_with fail
  refine HG.o.mono ?_;rintro e w1 ⟨rfl,hb1⟩;go_wp2
  go_ret
  exact⟨rfl,(H.o.below hb1).keep ((uur (fun _=>False) _).alloc _) (fun h=>h) (fun _ _ h=>h),(uuo hb1).alloc _⟩
theorem Tn{w:World}{b mb N:Nat}{v:Value}{ps:List (Int×Bool)}{slots:Nat}(h:IndexAt w b v mb N ps slots)(k:Int)(hc:getC ps k≠0):
  Calls Tryz.prog 240 #[.pointer (some ⟨b,0,none⟩),.int .i64 k] w fun e w'=>e=.returned (.tuple #[zN 0 false,.int .i64 (getC ps k)])/\Below w.heap.size w w':=by
 have H:=qqh (h.keep ((uur (fun _=>False) w).alloc (.cells #[.int .i64 0,.bool false] 95)) (fun h=>h) (fun _ _ h=>h));obtain⟨c,hcc⟩:=qqe (getC ps k);obtain⟨z,hz⟩:=qqe (getV ps k);have HG:=vU H.o k;rw[<-hcc,<-hz]at HG;have HG':=qqh HG;rw[<-hcc]at hc;rw[<-hcc];have hc':(c==0)=false:=by simpa using hc
 clear hcc hz h H hc HG;go_enter Tryz.func240,Tryz.ntmps240
 go_wp2_with fail
 refine HG'.o.mono ?_;rintro e w1 ⟨rfl,hb1⟩;have hz1:=hb1.size;simp at hz1;have hB:=zj ((qxl _ w).alloc (qXv _) _) (uuo (S:=fun _=>False) hb1) (qXv _) (fun _ h=>h.elim);have hrx:(w1.alloc (.cells #[.int .i64 z.1,.bool z.2] 95)).heap[w.heap.size]?=some (.cells #[.int .i64 0,.bool false] 95):=
  (((uuo (S:=fun _=>False) hb1).alloc _).block _ (by simp) (fun h=>h)).trans (zc w _ rfl)
 obtain⟨r0,r1,f0,f1⟩:=qa _ _ hrx;have Y:=qqh (qc _ _ hrx);clear hrx HG';go_wp2
 refine qYw (v:=.tuple #[zN 0 false,.int .i64 c]) ?_ rfl ⟨rfl,uA (hB.alloc (by omega) _) _ (by omega) _ _⟩;simp[results,Tryz.results240,go_sem,Y.out.1,Y.out.2]
theorem RS{w:World}{b mb N:Nat}{v:Value}{ps:List (Int×Bool)}{slots:Nat}(h:IndexAt w b v mb N ps slots)(n:Nat)(hn:n<ps.length)(h0:0<=ps[n].1):
  Calls Tryz.prog 240 #[.pointer (some ⟨b,0,none⟩),.int .i64 n] w fun e w'=>e=.returned (.tuple #[zN ps[n].1 ps[n].2,.int .i64 0])/\
   IndexAt w' b v mb N (ps.set n (-1,false)) slots/\Upd (ixS v mb) w w':=by
 have hgood:=h.good;have hr:=hgood.each n hn;have hsl:=h.sl1;have hle:=h.le;have hw:Upd (fun _=>False) w (w.alloc (.cells #[.int .i64 0,.bool false] 95)):=(uur (fun _=>False) w).alloc (.cells #[.int .i64 0,.bool false] 95);have H:=qqh h;have HG:=qqh (ZK (h.keep hw (fun h=>h) (fun _ _ h=>h)) n hn (by omega));clear h;go_enter Tryz.func240,Tryz.ntmps240
 go_wp2_with fail
 refine HG.o.mono ?_;rintro e w1 ⟨rfl,hb1⟩;have hz1:=hb1.size;simp at hz1;clear HG;have hu1:Upd (fun _=>False) w (w1.alloc (.cells #[.int .i64 ps[n].1,.bool ps[n].2] 95)):=(hw.trans (uuo hb1|>.mono (S':=fun _=>False) (fun _ _ h=>h))).alloc _;have hgx:(w1.alloc (.cells #[.int .i64 ps[n].1,.bool ps[n].2] 95)).heap[w1.heap.size]?=some (.cells #[.int .i64 ps[n].1,.bool ps[n].2] 95):=zc w1 _ rfl;have hrx:(w1.alloc (.cells #[.int .i64 ps[n].1,.bool ps[n].2] 95)).heap[w.heap.size]?=some (.cells #[.int .i64 0,.bool false] 95):=
  (((uuo (S:=fun _=>False) hb1).alloc _).block _ (by simp) (fun h=>h)).trans (zc w _ rfl)
 go_wp2
 generalize hw2:(w1.alloc (.cells #[.int .i64 ps[n].1,.bool ps[n].2] 95))=w2;rw[hw2]at hu1 hgx hrx;have hz2:w2.heap.size=w1.heap.size+1:=by rw[<-hw2];simp
 clear hw2 hb1 hw;have hI2:=H.o.keep hu1 (fun h=>h) (fun _ _ h=>h);obtain⟨w3,hdel,hM3,hu23',hz3⟩:=(show MapAt w2.drew mb N (atOf ps)from hI2.map).drop (x:=ps[n].1) (by omega) (by rcases hr with e|e;rw[e];decide;omega) 0;have hu23:=hu23'.undrew;obtain⟨g,off,cap,rfl,hg,P0,P1⟩:=hI2.at hn;have hbm:b≠mb:=fun e=>hI2.nm e.symm;have hgm:g≠mb:=fun e=>hI2.nv (by rw[e];rfl);have hgb:g≠b:=fun e=>hI2.ne (by rw[e];rfl);have hmlt:=H.o.map.lt;have hblt:=H.o.blt;have hglt:=H.o.sl.lt (g:=g) rfl;have T2:=za hI2.str 1;have u0:=za hgx 0;simp at T2 u0;have G3:=(hu23.block _ (by omega) (by omega)).trans hgx;have R3:=(hu23.block _ (by omega) (by omega)).trans hrx;have T3:=(hu23.block _ hI2.blt hbm).trans hI2.str;have S3:=hI2.sl.keep hu23 (fun g' hg' e=>by simp[Value.ownBlock]at hg';omega);have HM3:=qqh hM3;have HZ3:w3.heap.size=w1.heap.size+1:=hz3.trans hz2;have HU3:=qqh ((hu1.mono (S':=fun j=>j=mb) (fun _ _ h=>h.elim)).trans hu23);clear hu1 hgx hrx hz2 hI2 P0 P1 hu23' hu23 hM3 hg hz3;go_wp2
 go_region
 clear hdel T2 u0;have t0:=za T3 0;simp at t0;obtain⟨g',off',cap',cur,hve,hg3,hcs,hcc⟩:=S3.at (by omega);cases hve;have HG3:=qqh G3;have HR3:=qqh R3;have HT3:=qqh T3;have HS3:=qqh S3;have E0:=(za hg3 (off+n*2)).trans (hcc _ _ (xI hn).1);have E1:=(za hg3 (off+n*2+1)).trans (hcc (n*2+1) _ (xI hn).2);have F0:=zf hg3 (off+n*2);have F1:=zf hg3 (off+n*2+1);have hg3':=zd hg3;have hb3':=zd T3;clear G3 R3 T3 S3 hcs hcc hg3;go_wp2
 go_region_held3 (fun W=>W.cell? ⟨b,0,none⟩=some (.slice (some ⟨g,off,none⟩) ps.length cap)) (go_keep)
  ((go_at_call 173;refine(yR _).mono ?_;rintro e w4 ⟨rfl,hu4,hz4⟩;have k0:=(hu4.cellAt (o:=0) (by simp;omega) (fun h=>h)).trans t0;have k1:=(hu4.cellAt (by simp;omega) (fun h=>h)).trans E0;have k2:=(hu4.cellAt (by simp;omega) (fun h=>h)).trans E1;have k3:=(hu4.frozenAt (by simp;omega) (fun h=>h)).trans F0;have k4:=(hu4.frozenAt (by simp;omega) (fun h=>h)).trans F1))
 generalize hw5:((w4.setCell ⟨g,off+n*2,none⟩ (.int .i64 (-1))).setCell ⟨g,off+n*2+1,none⟩ (.bool false))=w5;have hu34:Upd (fun _=>False) w3 w4:=hu4.undrew;have hu45:Upd (fun j=>j=g) w4 w5:=by rw[<-hw5];exact(zi w4 g (off+n*2) _).trans (zi _ g (off+n*2+1) _)
 have S4:=HS3.o.keep hu34 (fun _ _ h=>h);have S5:Sl w5 95 2 (.slice (some ⟨g,off,none⟩) ps.length cap) (ps.set n (-1,false)).length (plC (ps.set n (-1,false))):=by
  rw[<-hw5];exact S4.putPlace n hn (-1) false
 have hz5:w5.heap.size=w1.heap.size+2:=by rw[<-hw5];simp[hz4];simp[HZ3]
 clear hw5 k0 k1 k2 k3 k4 E0 E1 F0 F1 t0;have hu35:=(hu34.mono (S':=fun j=>j=g) (fun _ _ h=>h.elim)).trans hu45;have M5:=HM3.o.keep hu35 (fun e=>hgm e.symm);have T5:=(hu35.block _ (by omega) (fun e=>hgb e.symm)).trans HT3.o;have G5:=(hu35.block _ (by omega) (by omega)).trans HG3.o;have R5:=(hu35.block _ (by omega) (by omega)).trans HR3.o;have HI5:Hid (IndexAt w5 b (.slice (some ⟨g,off,none⟩) ps.length cap) mb N (ps.set n (-1,false)) slots):=
  {str:=T5,sl:=by simpa using S5,map:=by rw[hgood.atOf_drop hn];exact M5,good:=hgood.drop n,ne:=H.o.ne,nm:=H.o.nm,nv:=H.o.nv,le:=by simpa using hle,sl1:=hsl}
 have HU5:Hid (Upd (ixS (.slice (some ⟨g,off,none⟩) ps.length cap) mb) w w5):=
  (HU3.o.mono (fun j _ e=> .inr e)).trans (hu35.mono (fun j _ e=> .inl (by rw[e];rfl)))
 have HR5:=qqh R5;have r0:=za R5 0;have r1:=za R5 1;have q0:=zf R5 0;have q1:=zf R5 1;have x0:=za G5 0;have x1:=za G5 1;simp at r0 r1 x0 x1;clear hu34 hu45 S4 S5 hu35 M5 T5 G5 R5 hz4 hu4;go_wp2
 have HA3:=zh (zh HR5.o 0 (.int .i64 ps[n].1)) 1 (.bool ps[n].2);have y0:=za HA3 0;have y1:=za HA3 1;simp at y0 y1;have hue:Upd (fun j=>j=w.heap.size) w5 ((w5.setCell ⟨w.heap.size,0,none⟩ (.int .i64 ps[n].1)).setCell ⟨w.heap.size,1,none⟩ (.bool ps[n].2)):=(zi w5 w.heap.size 0 _).trans (zi _ _ 1 _);refine qYw (v:=.tuple #[zN ps[n].1 ps[n].2,.int .i64 0]) ?_ rfl ⟨rfl,?_,?_⟩
 .simp [results,Tryz.results240,go_sem,y0,y1]
 .exact HI5.o.keep hue (by omega) (fun j hj e=>by have:=H.o.slt j hj;omega)
 .exact HU5.o.new (hue.mono (fun _ _ h=>h)) (fun j hj e=>by omega)
theorem To{w:World}{b mb N:Nat}{v:Value}{ps:List (Int×Bool)}{slots:Nat}(h:IndexAt w b v mb N ps slots)(k:Int):
  Calls Tryz.prog 240 #[.pointer (some ⟨b,0,none⟩),.int .i64 k] w fun e w'=>e=.returned (.tuple #[zN (getV ps k).1 (getV ps k).2,.int .i64 (getC ps k)])/\
   IndexAt w' b v mb N (dropL ps k) slots/\Upd (ixS v mb) w w':=by
 by_cases hc:getC ps k=0
 .obtain ⟨n,hn,rfl,h0,h1,hv⟩:=uB h.good hc;have hL:dropL ps n=ps.set n (-1,false):=by simp[dropL,hc]
  rw[hL,hv,hc];exact RS h n hn h0
 .have hL:dropL ps k=ps:=by simp[dropL,hc]
  rw[hL,qd hc];exact(Tn h k hc).mono fun e w' ⟨he,hb⟩=>⟨he,h.below hb,uuo hb⟩
theorem RT(ps:List (Int×Bool))(slots:Nat)(k s:Int)(d:Bool):(putL ps slots k s d).length=ps.length:=by unfold putL;split<;>simp
theorem Tp(ps:List (Int×Bool))(k:Int):(dropL ps k).length=ps.length:=by unfold dropL;split<;>simp
theorem VC(ps:List (Int×Bool))(k:Int):(cleanL ps k).length=ps.length:=by unfold cleanL;split<;>simp
theorem ZX(l:List Int)(s t:Int):(turnList l s t).length=l.length:=by unfold turnList;split<;>simp
section
variable{own:Nat->Nat}{w w':World}{c:Nat}{n:CaN}{p:CaP}{a:CaS}
theorem qe(h:CaAt own w c n p a)(k:Int):
  Calls Tryz.prog 100 #[ptr p.ix,.int .i64 k] w (zu own w c n p a (.tuple #[zN (getV a.ps k).1 (getV a.ps k).2,.int .i64 (getC a.ps k)])):=by
 obtain⟨v,mb,hi,-,-⟩:=h.ix;exact(vU hi k).mono fun _ _ ⟨he,hb⟩=>⟨he,own,h.new (uuo hb),h.didNew (uuo hb)⟩
theorem JM(h:CaAt own w c n p a)(k s:Int)(d:Bool)(hN:a.iN<maxLen):
  Calls Tryz.prog 203 #[ptr p.ix,.int .i64 k,zN s d] w (zu own w c n p {a with iN:=a.iN+1,ps:=putL a.ps n.sl k s d} (.tuple #[zN (uy a.ps n.sl k s).1 (uy a.ps n.sl k s).2,.int .i64 (putC a.ps n.sl k s)])):=by
 obtain⟨v,mb,hi,hb,hs⟩:=h.open5;exact(RR hi k s d hN).mono fun _ _ ⟨he,hi',hu⟩=>
  have hu':=hu.mono (fun j _ hj=>hs j hj)
  ⟨he,_,h.turn5 hu' ⟨v,mb,hi',hb,hs⟩ (RT _ _ _ _ _),h.did5 hu'⟩
theorem RU(h:CaAt own w c n p a)(k:Int):
  Calls Tryz.prog 240 #[ptr p.ix,.int .i64 k] w (zu own w c n p {a with ps:=dropL a.ps k} (.tuple #[zN (getV a.ps k).1 (getV a.ps k).2,.int .i64 (getC a.ps k)])):=by
 obtain⟨v,mb,hi,hb,hs⟩:=h.open5;exact(To hi k).mono fun _ _ ⟨he,hi',hu⟩=>
  have hu':=hu.mono (fun j _ hj=>hs j hj)
  ⟨he,_,h.turn5 hu' ⟨v,mb,hi',hb,hs⟩ (Tp _ _),h.did5 hu'⟩
theorem Tq(h:CaAt own w c n p a)(k:Int):
  Calls Tryz.prog 241 #[ptr p.ix,.int .i64 k] w (zu own w c n p {a with ps:=cleanL a.ps k} (.int .i64 (getC a.ps k))):=by
 obtain⟨v,mb,hi,hb,hs⟩:=h.open5;exact(VB hi k).mono fun _ _ ⟨he,hi',hu⟩=>
  have hu':=hu.mono (fun j _ hj=>hs j hj)
  ⟨he,_,h.turn5 hu' ⟨v,mb,hi',hb,hs⟩ (VC _ _),h.did5 hu'⟩
theorem xH(h:CaAt own w c n p a)(s t:Int):
  Calls Tryz.prog 176 #[ptr p.ss,.int .i64 s,.int .i64 t] w (zu own w c n p {a with st:=turnList a.st s t} (.int .i64 (turnCode a.st s t))):=by
 obtain⟨v,hi,hb,hs⟩:=h.open6;exact(ZJ hi h.tur s t).mono fun _ _ ⟨he,hi',hu⟩=>
  have hu':=hu.mono (fun j _ hj=>hs j hj)
  ⟨he,_,h.turn6 hu' ⟨v,hi',hb,hs⟩ (ZX _ _ _),h.did6 hu'⟩
theorem RV(h:CaAt own w c n p a)(k:Int)(hr:InR k)(hN:a.kN<maxLen):
  Calls Tryz.prog 205 #[ptr p.ck,.int .i64 k] w (zu own w c n p {a with kN:=a.kN+1,K:=Xd n.sl a.K k,A:=UT n.sl a.K a.A a.H k,H:=UU n.sl a.K a.H k} (.int .i64 (addC n.sl a.K k))):=
 (UW h.open8 (fun _ h=> .inr h) k hr hN).mono fun _ _ ⟨he,hc,hu⟩=>⟨he,_,h.turn8 hu hc,h.did8 hu⟩
theorem Tr(h:CaAt own w c n p a)(k:Int):
  Calls Tryz.prog 298 #[ptr p.ck,.int .i64 k] w (zu own w c n p {a with K:=a.K.erase k,A:=dropA a.K a.A k} (.int .i64 (touchC a.K k))):=
 (Vm h.open8 k).mono fun _ _ ⟨he,hc,hu⟩=>⟨he,_,h.turn8 hu hc,h.did8 hu⟩
theorem VD(h:CaAt own w c n p a)(k:Int)(hN:a.kN<maxLen):
  Calls Tryz.prog 325 #[ptr p.ck,.int .i64 k] w (zu own w c n p {a with kN:=a.kN+1,A:=agA a.A a.K k} (.int .i64 (touchC a.K k))):=
 (Vn h.open8 k hN).mono fun _ _ ⟨he,hc,hu⟩=>⟨he,_,h.turn8 hu hc,h.did8 hu⟩
theorem Wz(h:CaAt own w c n p a){N:Nat}{f:Int->Option Nat}(hm:MapAt w' p.sm N f)(hu:Upd (fun j=>j=p.sm) w w'):∃own',CaAt own' w' c n p {a with mN:=N,sums:=f}/\Did own own' w w':=by
 have hu':Upd (fun j=>own j=9\/w.heap.size<=j) w w':=hu.mono (fun j _ e=> .inl (e▸h.sm.2));exact⟨_,h.turn9 hu' ⟨hm,.inl h.sm.2⟩,h.did9 hu'⟩
theorem Ts(h:CaAt own w c n p a){x:Int}(h1: -9223372036854775808<=x)(h2:x<9223372036854775808)(y:Nat)(hy:y<9223372036854775808)(hn:a.mN<maxLen):
  ∃w' own',(Instr.mapUpdate 116 (.map (some p.sm)) (.int .i64 x) (.int .i64 (y:Int))).run Tryz.prog w=.ok () w'/\CaAt own' w' c n p {a with mN:=a.mN+1,sums:=upd1 a.sums x (some y)}/\Did own own' w w':=by
 obtain⟨w',hr,hm,hu,-⟩:=h.sm.1.store h1 h2 y hy hn;obtain⟨own',hc,hd⟩:=Wz h hm hu;exact⟨w',own',hr,hc,hd⟩
theorem JN(h:CaAt own w c n p a){x:Int}(h1: -9223372036854775808<=x)(h2:x<9223372036854775808)(ty:TypeId):
  ∃w' own',(Builtin.delete_ #[116,3] ty #[.map (some p.sm),.int .i64 x]).run Tryz.prog w=.ok (.tuple #[]) w'/\CaAt own' w' c n p {a with sums:=upd1 a.sums x none}/\Did own own' w w':=by
 obtain⟨w',hr,hm,hu,-⟩:=h.sm.1.drop h1 h2 ty;obtain⟨own',hc,hd⟩:=Wz h hm hu;exact⟨w',own',hr,hc,hd⟩
end
def cleanB(ps:List (Int×Bool))(k:Int):Bool:=getC ps k==0&&!(getV ps k).2
theorem qg{own:Nat->Nat}{w:World}{c:Nat}{n:CaN}{p:CaP}{a:CaS}(h:CaAt own w c n p a)(k:Int):
  Calls Tryz.prog 166 #[ptr c,.int .i64 k] w fun e w'=>e=.returned (.bool (cleanB a.ps k))/\Below w.heap.size w w':=by
 obtain⟨v,mb,hi,-,-⟩:=h.ix;obtain⟨-,-,-,-,d4,-,-,-,-⟩:=h.cells;have HG:=qqh (vU hi k);clear hi h;unfold cleanB;generalize getV a.ps k=pv at*;generalize getC a.ps k=cd at*;obtain⟨s,b⟩:=pv;go_enter Tryz.func166,Tryz.ntmps166
 go_wp2_with fail
 refine HG.o.mono ?_;rintro e w1 ⟨rfl,hb⟩;have HB:=qqh hb;clear hb;by_cases hc:cd=0
 .subst hc;go_wp2
  go_ret
  exact⟨by simp,HB.o.alloc HB.o.size _⟩
 .have q0:(cd==0)=false:=by simpa using hc
  go_wp2
  go_ret
  exact⟨by simp[q0],HB.o.alloc HB.o.size _⟩
end Go.Proofs.YtfhfbpmlnjdfoaaGreatDoor
namespace Go.Proofs.YtfhfbpmlnjdfoaaGreatDoor.EvG
open Go Go.RowKit Go.Proofs.YtfhfbpmlnjdfoaaGreatDoor
abbrev mayV(xv:Value):Value:=.func (.func 166) #[xv] #[]
def MayIs(xv:Value)(fm:Int->Bool)(w0:World):Prop:=∀(W:World) (k:Int),InR k->Upd (fun _=>False) w0 W->Calls Tryz.prog 166 #[xv,.int .i64 k] W fun e w'=>e=.returned (.bool (fm k))/\Below W.heap.size W w'
theorem Tt{xv:Value}{fm:Int->Bool}{w0:World}(hmay:MayIs xv fm w0)(k:Int)(hk:InR k)(w:World)(hw:Upd (fun _=>False) w0 w)(g:Nat)(hg:w.cell? ⟨g,0,none⟩=some (mayV xv)):
  Calls Tryz.prog 233 #[.int .i64 k,.pointer (some ⟨g,0,none⟩)] w fun e w'=>e=.returned (.bool (fm k))/\Below w.heap.size w w':=by
 have hmf:=qqf;have hlt:=(zL hg).2;have hg1:=(((uur (fun _=>False) w).alloc (.cells #[.bool false] 4)).cellAt hlt (fun h=>h)).trans hg;clear hg
 go_enter_defers Tryz.func233,Tryz.ntmps233
 go_wp2_with fail
 refine(hmay _ k hk (hw.alloc _)).mono ?_;rintro e w1 ⟨rfl,hb1⟩;have hs1:=hb1.size;simp at hs1;have blk:=(hb1.block w.heap.size (by simp)).trans (zc w (.cells #[.bool false] 4) rfl);have C2:=qqh (za (zh blk 0 (.bool (fm k))) 0);have c1:=(hb1.cell (p:=⟨w.heap.size,0,none⟩) (by simp)).trans (za (zc w (.cells #[.bool false] 4) rfl) 0);have f1:=(hb1.frozen (p:=⟨w.heap.size,0,none⟩) (by simp)).trans (zf (zc w (.cells #[.bool false] 4) rfl) 0);simp at c1;have HB:Hid (Below w.heap.size w w1):=zj ((qxl _ _).alloc (qXv _) _) (uuo (S:=fun _=>False) hb1) (qXv _) (fun _ h=>h.elim);clear hb1 blk;go_wp2
 refine leaves_cons (f:=234) (args:= #[.pointer (some ⟨w.heap.size,0,none⟩)]) (by simp) (by simp[go_sem]) ?_;refine(YY _ _).mono ?_;rintro e u' w'' ⟨rfl,rfl,rfl⟩;simp[Leaves,settle,results,Tryz.results233,go_sem];have c2:=C2.out;simp at c2;rw[c2];exact⟨_,rfl,rfl,HB.o.setCell (p:=⟨w.heap.size,0,none⟩) (qXv _) _⟩
def trimG(few:Nat)(L:List Int):List Int:=if few<L.length then L.tail else L
def restK(K:List Int)(i:Nat):List Int:=K.drop (i+1)++K.take i
structure EvYes(fm:Int->Bool)(few:Nat)(K:List Int)(A:Int->Bool)(G:List Int)(key:Int)(K':List Int)(A':Int->Bool)(G':List Int):Prop where
 ex:∃i,∃h:i<K.length,key=K[i]/\K'=restK K i/\((∀x,K.head?=some x->fm x=true/\A x=false)->i=0/\A'=A)/\((i=0/\A'=A)\/1<=i\/∀x∈K,fm x=false\/A x=true)/\∀j (hj:j<K.length),j<i->fm K[j]=true->A' K[j]=false
 gh:G'=trimG few (G++[key])
 out:A' key=false
 sub:∀x,A' x=true->A x=true
def evGo(fm:Int->Bool)(K:List Int):Nat->Nat->(Int->Bool)->Option (Nat×(Int->Bool))
 |0,_,_=>none
 |g+1,h,A=>if fm (K.getD (h%K.length) 0)=false then evGo fm K g (h+1) A else if A (K.getD (h%K.length) 0)=true then evGo fm K g (h+1) (updB A (K.getD (h%K.length) 0) false)else some (h%K.length,A)
def evR(fm:Int->Bool)(few:Nat)(K:List Int)(A:Int->Bool)(G:List Int):Int×Int×List Int×(Int->Bool)×List Int:=
 match evGo fm K (2*K.length) 0 A with
 |none=>(0,14,K,A,G)
 |some (p,A')=>(K.getD p 0,0,restK K p,A',trimG few (G++[K.getD p 0]))
section
variable{fm:Int->Bool}{K:List Int}{A:Int->Bool}{g h p:Nat}{k:Int}{hp:p<K.length}
theorem VE(hg:1<=g)(hk:k=K[p])(he:p=h%K.length)(hf:fm k=false):evGo fm K g h A=evGo fm K (g-1) (h+1) A:=by
 obtain⟨g,rfl⟩:∃g',g=g'+1:=⟨g-1,by omega⟩
 have e:K.getD (h%K.length) 0=k:=by rw[<-he,hk];simp[hp]
 simp only[evGo,e,hf,if_true,Nat.add_sub_cancel]
theorem Tu(hg:1<=g)(hk:k=K[p])(he:p=h%K.length)(hf:fm k=true)(ha:A k=true):evGo fm K g h A=evGo fm K (g-1) (h+1) (updB A k false):=by
 obtain⟨g,rfl⟩:∃g',g=g'+1:=⟨g-1,by omega⟩
 have e:K.getD (h%K.length) 0=k:=by rw[<-he,hk];simp[hp]
 simp only[evGo,e,hf,ha,if_true,Nat.add_sub_cancel];simp
theorem Tv(hg:1<=g)(hk:k=K[p])(he:p=h%K.length)(hf:fm k=true)(ha:A k=false):evGo fm K g h A=some (p,A):=by
 obtain⟨g,rfl⟩:∃g',g=g'+1:=⟨g-1,by omega⟩
 have e:K.getD (h%K.length) 0=k:=by rw[<-he,hk];simp[hp]
 simp only[evGo,e,hf,ha];simp[he]
end
def EvOut(fm:Int->Bool)(few:Nat)(K:List Int)(A:Int->Bool)(G:List Int)(key code:Int)(K':List Int)(A':Int->Bool)(G':List Int):Prop:=
 ((code=14/\key=0/\K'=K/\A'=A/\G'=G/\∀x∈K,fm x=false\/A x=true)\/(code=0/\EvYes fm few K A G key K' A' G'))/\evR fm few K A G=(key,code,K',A',G')
theorem restK_perm{K:List Int}{i:Nat}(h:i<K.length):(K[i]::restK K i).Perm K:=by
 unfold restK;have e:K=K.take i++K[i]::K.drop (i+1):=by simp
 have h1:(K[i]::(K.drop (i+1)++K.take i)).Perm (K.take i++K[i]::K.drop (i+1)):=by
  exact List.perm_append_comm (l₁:=K[i]::K.drop (i+1)) (l₂:=K.take i)
 rw[<-e]at h1;exact h1
theorem VF{K:List Int}{i:Nat}(h:i<K.length):(restK K i).length+1=K.length:=by
 have:=(restK_perm h).length_eq;simpa using this
theorem VG(few:Nat)(L:List Int)(h:L.length<=few+1):(trimG few L).length<=few:=by
 unfold trimG;split
 .rw [List.length_tail];omega
 .omega
theorem trimG_mem{few:Nat}{L:List Int}{x:Int}(h:x∈trimG few L):x∈L:=by
 unfold trimG at h;split at h
 .exact List.mem_of_mem_tail h
 .exact h
theorem ZY{few:Nat}{L:List Int}(h:L.Nodup):(trimG few L).Nodup:=by
 unfold trimG;split
 .exact h.sublist (List.tail_sublist L)
 .exact h
theorem CkGood.evict{most few:Nat}{K G K' G':List Int}{A A':Int->Bool}{fm:Int->Bool}{key:Int}(h:CkGood most few K A G)(hy:EvYes fm few K A G key K' A' G'):CkGood most few K' A' G':=by
 obtain⟨i,hi,rfl,rfl,_,_,_⟩:=hy.ex;have hp:=restK_perm hi;have hnd:(K[i]::restK K i).Nodup:=hp.nodup_iff.2 h.kd;have hmem:∀x,x∈restK K i->x∈K:=fun x hx=>hp.mem_iff.1 (qzs _ hx);have hlen:=VF hi;have hgh:=hy.gh;subst hgh;exact{
  kr:=fun x hx=>h.kr x (hmem x hx)
  gr:=fun x hx=>by
   rcases qzq.1 (trimG_mem hx)with h1|h1
   .exact h.gr x h1
   .simp at h1;exact h1▸h.kr _ (qyz hi)
  kd:=(qXb.1 hnd).2
  gd:=ZY (by
   rw[qXa];refine⟨h.gd,by simp,fun x hx y hy e=>?_⟩;simp at hy;subst hy;subst e;exact h.dis _ (qyz hi) hx)
  dis:=fun x hx hg=>by
   rcases qzq.1 (trimG_mem hg)with h1|h1
   .exact h.dis x (hmem x hx) h1
   .simp at h1;subst h1;exact(qXb.1 hnd).1 hx
  ask:=fun x hx=>by
   have h1:=h.ask x (hy.sub x hx);rcases qzr.1 (hp.mem_iff.2 h1)with h2|h2
   .subst h2;rw[hy.out]at hx;cases hx
   .exact h2
  kl:=by have:=h.kl;omega
  gl:=VG _ _ (by have:=h.gl;simp;omega)
  ml:=h.ml
  fl:=h.fl
  m1:=h.m1}
theorem EvOut.good{most few:Nat}{K G K' G':List Int}{A A':Int->Bool}{fm:Int->Bool}{key code:Int}(h:CkGood most few K A G)(ho:EvOut fm few K A G key code K' A' G'):CkGood most few K' A' G':=by
 rcases ho with⟨⟨_,_,rfl,rfl,rfl,_⟩|⟨_,hy⟩,-⟩
 .exact h
 .exact CkGood.evict h hy
end Go.Proofs.YtfhfbpmlnjdfoaaGreatDoor.EvG
