/- Pages: the pag -/
import Derived.Test.YtfhfbpmlnjdfoaaGreatDoorG12
set_option maxRecDepth 100000
set_option maxHeartbeats 2000000
namespace Go.Proofs.YtfhfbpmlnjdfoaaGreatDoor
open Go Go.RowKit Tryz
def entX(xs:List Int)(i:Nat):List Value:=[.int .i64 ((rowI xs i).getD 0 0),.int .i64 ((rowI xs i).getD 1 0),.bool ((rowI xs i).getD 2 0==1),.int .i64 ((rowI xs i).getD 3 0)]
def QZ:List Value:=[.int .i64 0,.int .i64 0,.bool false,.int .i64 0]
def dsPk(xs:List Int)(k:Nat):List Value:=[.int .i64 (xs.getD 0 0),.int .i64 (xs.getD 1 0),.int .i64 (xs.getD 2 0),.int .i64 (xs.getD 3 0)]++(List.range 4).flatMap fun i=>if i<k then entX xs i else QZ
def dsP(xs:List Int):List Value:=dsPk xs 4
theorem xW(xs:List Int)(k:Nat):(dsPk xs k).length=20:=by
 have e:∀i,(if i<k then entX xs i else QZ).length=4:=fun i=>by split<;>rfl
 simp[dsPk,List.range_succ,e]
theorem Xf(xs:List Int)(k:Nat):∀v∈dsPk xs k,v.oneCell'=true:=by
 intro v hv;rcases qzq.1 hv with hv|hv
 .simp only[qzr,qXd,qZb]at hv;rcases hv with rfl|rfl|rfl|rfl<;>rfl
 .obtain ⟨i,-,hi⟩:=qzu.1 hv;split at hi<;>(simp only[entX,QZ,qzr,qXd,qZb]at hi;rcases hi with rfl|rfl|rfl|rfl<;>rfl)
theorem vy(xs:List Int):(dsP xs).length=20:=xW xs 4
theorem vz(xs:List Int):∀v∈dsP xs,v.oneCell'=true:=Xf xs 4
theorem Ti(xs:List Int){k:Nat}(hk:k<4):(dsPk xs k).take (4+k*4)++entX xs k++(dsPk xs k).drop (4+k*4+4)=dsPk xs (k+1):=by
 rcases(show k=0\/k=1\/k=2\/k=3 by omega)with rfl|rfl|rfl|rfl<;>rfl
theorem VL(w:World):(Instr.alloc 280 true (.tuple #[])).run prog w=.ok (.pointer (some ⟨w.heap.size,0,none⟩)) (w.alloc (.cells (dsPk [] 0).toArray 280)):=by
 kernel_rfl
theorem Ra(x0 x1 x2 x3:Int)(W:World):(Instr.build 280 #[(0,.int .i64 x0),(1,.int .i64 x1),(2,.int .i64 x2),(3,.int .i64 x3)]).run prog W=.ok (.agg ([Value.int .i64 x0,.int .i64 x1,.int .i64 x2,.int .i64 x3]++(List.range 4).flatMap fun _=>QZ).toArray) W:=by
 kernel_rfl
theorem vN{cs' cs:Array Value}{vs:List Value}{o:Nat}(_hs:cs'.size=cs.size)(hl:o+vs.length<=cs.size)(h:∀j,cs'[j]?=if o<=j/\j<o+vs.length/\j<cs.size then vs[j-o]? else cs[j]?):cs'=(cs.toList.take o++vs++cs.toList.drop (o+vs.length)).toArray:=by
 apply qxd
 intro j;rw[h j];simp only[qyv,qxx,List.getElem?_append,qzk,qyu,qym,qxh,Nat.min_eq_left (show o<=cs.size by omega),Array.getElem?_toList];by_cases h1:j<o
 .rw [if_neg oM,if_pos h1,if_pos h1]
 .by_cases h2:j<o+vs.length
  .rw [if_pos oM,if_neg h1,if_pos oM]
  .rw [if_neg oM,if_neg h1,if_neg oM]
   congr 1
   omega
theorem Xg{xs:List Int}{k:Nat}{w:World}{b:Nat}{T:TypeId}(hk:k<4)(h:w.heap[b]?=some (.cells (dsPk xs k).toArray T (0,0))):(w.setCells b (4+k*4) (entX xs k)).heap[b]?=some (.cells (dsPk xs (k+1)).toArray T (0,0)):=by
 obtain⟨cs',h1,h2,h3⟩:=zC (entX xs k) (4+k*4) w b (dsPk xs k).toArray T (0,0) h;rw[h1,vN h2 (by rw[qXm,xW];show 4+k*4+4<=20;omega) h3,<-Ti xs hk];rfl
theorem AL{w:World}{gl ol cl:Nat}(xs:List Int)(hxl:xs.length=20)(hx:w.rangeAt gl ol (ints xs))(hcl:20<=cl)(hcm:cl<=maxLen):
  Calls prog 310 (#[.slice (some ⟨gl,ol,none⟩) 20 cl]++ #[]) w fun e w'=>e=.returned (.agg (dsP xs).toArray)/\Below w.heap.size w w':=by
 have c0:=yA hx 0 oM;have c1:=yA hx 1 oM;have c2:=yA hx 2 oM;have c3:=yA hx 3 oM;rw[qXs]at c0;have hlt:gl<w.heap.size:=qYn w _ c0;have h00:dsPk xs 0=[.int .i64 (xs.getD 0 0),.int .i64 (xs.getD 1 0),.int .i64 (xs.getD 2 0),.int .i64 (xs.getD 3 0)]++(List.range 4).flatMap fun _=>QZ:=rfl;have hbl:=Ra (xs.getD 0 0) (xs.getD 1 0) (xs.getD 2 0) (xs.getD 3 0);rw[<-h00]at hbl;have H0:=qqh h00;generalize xs.getD 0 0=x0 at*;generalize xs.getD 1 0=x1 at*;generalize xs.getD 2 0=x2 at*;generalize xs.getD 3 0=x3 at*;obtain⟨Z,hZ⟩:=qqe (dsPk [] 0);have hal:=VL;simp only[<-hZ]at hal;have hZl:Z.toArray.size=20:=by rw[hZ,qXm,xW]
 obtain⟨L,hL⟩:=qqe (dsPk xs 0);rw[<-hL]at hbl;have hLl:L.toArray.size=20:=by rw[hL,qXm,xW]
 have hLi:(prog.info? 280).map (·.size)=some L.toArray.size:=by rw[hLl];exact wQ
 have hL1:∀v∈L,v.oneCell'=true:=by rw[hL];exact Xf _ _
 obtain⟨w1,hw1⟩:=qqe (w.alloc (.cells Z.toArray 280));have hu1:=qqu hw1;have g1:=qqg hw1;have z1:w1.heap.size=w.heap.size+1:=by rw[hw1];simp
 have d0:=hu1.j4 c0 id;have d1:=hu1.j4 c1 id;have d2:=hu1.j4 c2 id;have d3:=hu1.j4 c3 id;have HW1:=qqh hw1;have HX:=Y8 hx hxl hcl hcm hu1 g1 z1 hL;clear hx hxl hcl hcm hu1 g1 z1 hL hw1 c0 c1 c2 c3 hZ h00 H0;go_enter func310,ntmps310
 go_wp2_with (first
  |(refine zY rfl _ rfl _ hal ?_)
  |fail)
 rw[<-HW1.o];refine qZj (S:=fun W=>W.cell? ⟨gl,ol,none⟩=some (.int .i64 x0)/\W.cell? ⟨gl,ol+1,none⟩=some (.int .i64 x1)/\W.cell? ⟨gl,ol+2,none⟩=some (.int .i64 x2)/\W.cell? ⟨gl,ol+3,none⟩=some (.int .i64 x3)) kR (by(simp only[qYo]);exact⟨d0,d1,d2,d3⟩) (fun hHeld=>?_);refine Wl.i [0,1,2,3,4,5,6,7,8,9,10,11] ?_;iterate 12 refine Wl.t hHeld ?_
 refine Wl.o ?_;refine qZf (i:=12) (v:=.agg L.toArray) rfl kR kR kR (fun _ _ _ h=>h) (Or.inl ⟨by rfl,fun W _=>?_⟩) hHeld ?_
 .simp only[qzc,qyw,qyx,execOp,qYm,qzp,qzm,qzo]
  change ((Instr.build 280 #[(0,.int .i64 x0),(1,.int .i64 x1),(2,.int .i64 x2),(3,.int .i64 x3)]).run prog W).andThen _=_
  rw[hbl];rfl
 simp only[qzc,qyw,qyx,Act.put,qXi,qXl,qXk];refine Wl.r 13 (fun K hK=>?_);rw[if_pos oD];unfold Oper.wp;simp only[qzc,qyw,qyx,execOp,qYm,hal,qYl];have hZg:=zc w1.drew (.cells Z.toArray 280) rfl;have hua:=(uur (fun _=>False) w1.drew).alloc (.cells Z.toArray 280);obtain⟨w2,hw2⟩:=qqe (w1.drew.alloc (.cells Z.toArray 280));rw[<-hw2]at hZg hua⊢;simp only[World.size_drew]at hZg;have e0:=hua.j4 hHeld.1 id;have e1:=hua.j4 hHeld.2.1 id;have e2:=hua.j4 hHeld.2.2.1 id;have e3:=hua.j4 hHeld.2.2.2 id;refine hK.o _ _ ⟨e0,e1,e2,e3⟩ (fun hH2=>?_);clear hK K;have hth:w2.there w1.heap.size 0 L.toArray.size:=fun j hj=>by
  rw[za hZg,qYe,qxe (by rw[hZl,<-hLl];exact hj)];exact⟨rfl,zg hZg _⟩
 refine Wl.r 14 (fun K hK=>?_);rw[if_pos oD];refine qZk _ _ _ rfl _ _ L.toArray rfl rfl hth hLi (qYu hL1) ?_;simp only[Act.put,qXi];have hus:=zq w2 w1.heap.size 0 L;have hgl1:gl≠w1.heap.size:=by have:=HX.o.2.2.2.2.2.2.1;omega
 have g3:(w2.setCells w1.heap.size 0 L).heap[w1.heap.size]?=some (.cells L.toArray 280 (0,0)):=by
  obtain⟨cs',q1,q2,q3⟩:=zC L 0 w2 w1.heap.size Z.toArray 280 (0,0) hZg;rw[q1,vN q2 (by rw[hZl,<-hLl,qXm];omega) q3];have:L.length=Z.toArray.size:=by rw[hZl,<-hLl,qXm]
  rw[qYe,List.take_zero,qzz,List.drop_of_length_le (by rw[qxh];omega),qxy]
 obtain⟨hx,hxl,hcl,hcm,hu1,g1,z1,hL⟩:=HX.o;have hu12:Upd (fun _=>False) w1 w2:=((uur _ w1).drew).trans hua;have g13:=(hus.block w.heap.size (by have:=zf g1;have:=hu12.size;omega) oM).trans (hu12.j6 g1);have hu3:Upd (fun j=>j=w1.heap.size) w (w2.setCells w1.heap.size 0 L):=((hu1.trans hu12).mono fE).trans hus;refine hK.o _ _ ⟨hus.j4 hH2.1 hgl1,hus.j4 hH2.2.1 hgl1,hus.j4 hH2.2.2.1 hgl1,hus.j4 hH2.2.2.2 hgl1⟩ (fun _=>?_);clear hK K;refine Wl.d ?_;rw[z1]at g3 hus hgl1 hu3 g13;simp only[World.size_drew,z1];generalize w2.setCells (w.heap.size+1) 0 L=w3 at*;rw[hL]at g3;have hxd:=((hu1.trans hu12).range hx id)
 have hx3:=hus.range hxd hgl1;have HZ:=qqh hZl;have H3:=Y8 hx3 g3 g13 hu3 hxl hcl hcm hgl1;clear hx hxl hcl hcm hu1 g1 hL hus hZg hua e0 e1 e2 e3 hth hH2 hHeld hu12 g13 hu3 hxd hx3 g3 d0 d1 d2 d3 hw2 hal hbl hLl hLi hL1 hZl HX HW1 hgl1 z1;go_wp2_with fail
 go_loopg[19] 4 (fun g s19 wr=>∃k:Nat,k+g=4/\s19=.int .i64 (k:Int)/\wr.heap[w.heap.size+1]?=some (.cells (dsPk xs k).toArray 280 (0,0))/\Upd (fun j=>j=w.heap.size+1) w3 wr)
 case atStart=>exact⟨0,oM,rfl,H3.o.2.1,uur _ _⟩
 case round=>
  obtain⟨k,hk,rfl,hg,hu⟩:=hrel;obtain⟨hx3,g3,g13,hu3,hxl,hcl,hcm,hgl1⟩:=H3.o;by_cases hlt:k<4
  .have k1:(k:Int)<4:=oM;have k0:(0:Int)<=(k:Int):=oM;have HR:=qqh (VD (hu.range hx3 hgl1) hxl hcl hcm k hlt);have hrl:=xU hxl hlt;obtain⟨a0,a1,a2,a3,hrow⟩:∃a0 a1 a2 a3,rowI xs k=[a0,a1,a2,a3]:=by
    match rowI xs k,hrl with
    |[a0,a1,a2,a3],_=>exact⟨_,_,_,_,rfl⟩
   rw[hrow]at HR;have hE:Hid (entX xs k=[.int .i64 a0,.int .i64 a1,.bool (a2==1),.int .i64 a3]):=by show _=_;unfold entX;rw[hrow];rfl
   have HG:=Y2 hg hu;clear hx3 g3 g13 hu3 hxl hcl hcm hgl1 hg hu hrl hrow;go_wp2_with fail
   refine HR.o.mono ?_;rintro e w4 ⟨rfl,hb4⟩;have hua:Upd (fun _=>False) wr (w4.alloc (.cells #[.int .i64 a0,.int .i64 a1,.int .i64 a2,.int .i64 a3] 419)):=(uuo hb4).alloc _;have hg5:=hua.j6 HG.o.1;have hth:(w4.alloc (.cells #[.int .i64 a0,.int .i64 a1,.int .i64 a2,.int .i64 a3] 419)).there (w.heap.size+1) (4+k*4) 4:=fun j hj=>by
    rw[za hg5,zg hg5,qxe (by rw[qXm,xW];omega)];exact⟨rfl,rfl⟩
   have HU:=Y2 hua hg5;obtain⟨E,hEE⟩:∃E:List Value,E=[.int .i64 a0,.int .i64 a1,.bool (a2==1),.int .i64 a3]:=⟨_,rfl⟩
   have hone:E.toArray.all (·.oneCell')=true:=by rw[hEE];simp[Value.oneCell']
   have hEn:(prog.info? 37).map (·.size)=some E.toArray.size:=by rw[hEE];exact Zu
   have hth':(w4.alloc (.cells #[.int .i64 a0,.int .i64 a1,.int .i64 a2,.int .i64 a3] 419)).there (w.heap.size+1) (4+k*4) E.toArray.size:=by rw[hEE];exact hth
   replace hth:=hth';clear hua hg5 hb4;simp only[ints,qzm,qzo];go_wp2_with (first
    |(refine zl rfl _ _ _ rfl _ _ [Value.int .i64 a0,.int .i64 a1,.int .i64 a2,.int .i64 a3] rfl rfl rfl Wo oJ ?_)
    |(refine qZi rfl _ _ _ rfl (w.heap.size+1) (4+k*4) E.toArray rfl (by rw[hEE];rfl) hth hEn hone ?_)
    |fail)
   obtain⟨hua,hg5⟩:=HU.o;have hgs:=Xg hlt hg5;rw[hE.out]at hgs;have hu5:=(HG.o.2.trans (hua.mono (S':=fun j=>j=w.heap.size+1) (fun _ _ h=>h.elim))).trans (zq (w4.alloc (.cells #[.int .i64 a0,.int .i64 a1,.int .i64 a2,.int .i64 a3] 419)) (w.heap.size+1) (4+k*4) [Value.int .i64 a0,.int .i64 a1,.bool (a2==1),.int .i64 a3]);generalize (w4.alloc (.cells #[.int .i64 a0,.int .i64 a1,.int .i64 a2,.int .i64 a3] 419)).setCells (w.heap.size+1) (4+k*4) [Value.int .i64 a0,.int .i64 a1,.bool (a2==1),.int .i64 a3]=w6 at*;have HX:=Y2 hgs hu5;clear hua hg5 hgs hu5 hth hth' hone hEn hEE HU;go_roundg (gk-1)
   case measure=>omega
   case rel=>exact⟨k+1,oM,by go_num,HX.o.1,HX.o.2⟩
  .obtain rfl:k=4:=oM;have k1:¬(((4:Nat):Int)<4):=de;have h20:=vy xs;have h1:=vz xs;have hsz:(prog.info? 280).map (·.size)=some (dsP xs).length:=by rw[h20];exact wQ
   have hsz2:(prog.info? 280).map (·.size)=some (dsP xs).toArray.size:=by rw[qXm,h20];exact wQ
   have r5:wr.rangeAt (w.heap.size+1) 0 (dsP xs):=zh hg;have g0:=(hu.block w.heap.size (zf g13) oM).trans g13;have hZl:Z.toArray.size=20:=HZ.o;have hth:wr.there w.heap.size 0 (dsP xs).toArray.size:=fun j hj=>by
    rw[za g0,zg g0,qxe (by rw[qXm,h20]at hj;omega)];exact⟨rfl,rfl⟩
   have hth2:wr.there w.heap.size 0 (dsP xs).length:=by rw[qXm]at hth;exact hth
   have hU:=hu3.trans hu;obtain⟨D,hD⟩:=qqe (dsP xs);rw[<-hD]at h20 h1 hsz hsz2 r5 hth hth2;have HD:=qqh hD;clear hD;have HF:=Y3 hth2 hsz hU;clear hx3 g3 g13 hu3 hxl hcl hcm hg hu hth2 hU h20 g0;go_wp2_with (first
    |(refine qZg rfl _ _ rfl _ _ rfl _ _ r5 underlying280 rfl hsz ?_)
    |(refine qZi rfl _ _ _ rfl w.heap.size 0 D.toArray rfl rfl hth hsz2 (qYu h1) ?_)
    |fail)
   exact qYw (zI rfl _ _ w.heap.size 0 D _ rfl (qYr _ _ _ _ HF.o.1) underlying280 rfl HF.o.2.1) rfl
    ⟨by rw[HD.o],zk (qxl _ w) ((HF.o.2.2.mono (S':=fun j=>j=w.heap.size+1\/j=w.heap.size) (fun _ _ h=> .inl h)).trans ((zq wr w.heap.size 0 D).mono (fun _ _ h=> .inr h))) (qXv _) (fun k e=>oM)⟩
theorem wy{P:Prop}(h:P:=by
 have H:=Y6 hs hN hmay hbuild hss hm;have HC:=Y3 hds hd1 hb;clear hs hN hmay hbuild hss hm hds hd1 hb;have hr:((w.alloc (.cells #[.int .i64 (k:Int),.slice (some ⟨gs,0,none⟩) m cl,tv,.func (.func fm) #[] cm,.func (.func fb) #[] cb] n1a)).alloc (.cells (bkC b).toArray 54)).rangeAt (w.heap.size+1) 0 (bkC b):=zh (zc _ _ oe);go_enter q2a,q3a
 go_wp2_with (first
  |(refine qZg rfl _ _ rfl _ _ rfl _ _ (qYp (qYp hr _) _) underlying54 rfl (zw _ HC.o.2.2) ?_)
  |fail)
 show Calls _ _ _ ((((w.alloc (.cells #[.int .i64 (k:Int),.slice (some ⟨gs,0,none⟩) m cl,tv,.func (.func fm) #[] cm,.func (.func fb) #[] cb] n1a)).alloc (.cells (bkC b).toArray 54)).alloc (.cells d4a.toArray n5a)).alloc (.cells d4a.toArray n5a)) _;obtain⟨Z,hZ⟩:∃Z:List Value,Z=d4a:=⟨_,rfl⟩
 rw[<-hZ];have hZs:Hid (Z.toArray.size=n6a):=by show _=_;rw[hZ];rfl
 have hZl:Hid (Z.length=n6a):=by show _=_;rw[hZ];rfl
 have hsZ:Hid ((prog.info? n5a).map (·.size)=some Z.length):=by show _=_;rw[hZ];exact q7a
 have hsA:Hid ((prog.info? n5a).map (·.size)=some Z.toArray.size):=by show _=_;rw[hZ];exact q7a
 have hZ1:Hid ((Z.toArray).all (·.oneCell')=true):=by show _=_;rw[hZ];exact q8a
 have HZ:=qqh hZ;clear hZ;obtain⟨h1,h2,h3,h4,h5,h6⟩:=xC w (.cells #[.int .i64 (k:Int),.slice (some ⟨gs,0,none⟩) m cl,tv,.func (.func fm) #[] cm,.func (.func fb) #[] cb] n1a) (.cells (bkC b).toArray 54) (.cells Z.toArray n5a) (.cells Z.toArray n5a);clear hr;generalize (((w.alloc (.cells #[.int .i64 (k:Int),.slice (some ⟨gs,0,none⟩) m cl,tv,.func (.func fm) #[] cm,.func (.func fb) #[] cb] n1a)).alloc (.cells (bkC b).toArray 54)).alloc (.cells Z.toArray n5a)).alloc (.cells Z.toArray n5a)=w4 at*;refine(qF b HC.o.2.2 (H.o.2.1.keep h6 id)).mono ?_;rintro e w5 ⟨rfl,hb5⟩;have hu5:=qqb hb5;have g1:=(hu5.block _ (zf h1) id).trans h1;have g2:=(hu5.block _ (zf h2) id).trans h2;have g3:=(hu5.block _ (zf h3) id).trans h3;have g4:=(hu5.block _ (zf h4) id).trans h4;have hz5:=hu5.size;have H5:=Y7 g1 g2 g3 g4 (h6.trans hu5) h5 hz5;clear h1 h2 h3 h4 h5 h6 g1 g2 g3 g4 hu5 hb5 hz5;by_cases hsl:sealB b=b
 .have hsc:sealedC b=0:=if_pos hsl;rw[hsc];clear hsc;have HS:=qqh hsl;clear hsl;obtain⟨g1,g2,g3,g4,u5,z4,z5⟩:=H5.o;have r5:=zh g2;clear g1 g2 g3 g4 u5;go_wp2_with (first
   |(refine qZg rfl _ _ rfl _ _ rfl _ _ r5 underlying54 rfl (zw _ HC.o.2.2) ?_)
   |fail)
  refine(zbN b HC.o.2.2).mono ?_;rintro e w6 ⟨g,rfl,hR6,hge,hb6⟩;have HX:=Y2 hR6 hb6;clear hR6 hb6;go_wp2_with fail
  refine(EW HX.o.1 1 de de de).mono ?_;rintro e w7 ⟨rfl,hR7,hU7⟩;obtain⟨kb,hkb⟩:=qqe (numB ((b.drop 0).take 1));rw[<-hkb];have HK:=qqh hkb;clear hkb;obtain⟨g1,g2,g3,g4,u5,z4,z5⟩:=H5.o;obtain⟨hs,hN,-,-,hss,hm⟩:=H.o;have u57:Upd (fun j=>j=g) w5 w7:=((uuo (S:=fun _=>False) HX.o.2).mono fE).trans hU7;have u7:Upd (fun j=>j=g) w w7:=(u5.mono fE).trans u57;have hM7:w.heap.size+4<=w7.heap.size:=by have:=u57.size;omega
  have gM:w.heap.size+4<=g:=oM;have m1:w7.cell? ⟨w.heap.size,1,none⟩=some (.slice (some ⟨gs,0,none⟩) m cl):=u57.j4 (za g1 1) oM;have a1:=(u57.block _ (zf g1) oM).trans g1;have a3:=(u57.block _ (zf g3) oM).trans g3;have a4:=(u57.block _ (zf g4) oM).trans g4;have gslt:gs<w.heap.size\/m=0:=by
   rcases qXt m with h|h
   .exact .inr h
   .exact .inl (qYn w _ (hs 0 _ (sO oM)))
  have hs7:∀i (hi:i<ss.length),w7.cell? ⟨gs,i,none⟩=some (.int .i64 (ss[i]:Int)):=fun i hi=>by
   have:=u7.j4 (hs i _ (sO hi)) oM
   rwa[qYe]at this
  have hua:Upd (fun _=>False) w7 (w7.alloc (.cells (ints (List.replicate m 0)).toArray 3)):=(uur _ _).alloc _;have hgL:=zc w7 (.cells (ints (List.replicate m 0)).toArray 3) rfl;have hmk:=YL m oM w7;have hR8:=hR7.keep hua id;have hglt:=hR7.lt;have m18:(w7.alloc (.cells (ints (List.replicate m 0)).toArray 3)).cell? ⟨w.heap.size,1,none⟩=some (.slice (some ⟨gs,0,none⟩) m cl):=hua.j4 m1 id;have H8:=Y12 hua hgL hR8 a1 a3 a4 hs7 gslt u7 hss hm hN;clear g1 g2 g3 g4 u5 z4 hs hN hss hm u57 u7 a1 a3 a4 gslt hs7 hua hgL hR8 hU7 hR7 r5 z5;go_wp2
  clear hmk m1;generalize hW8:w7.alloc (.cells (ints (List.replicate m 0)).toArray 3)=w8 at*;have HW8:=qqh hW8;clear hW8;generalize hL:w7.heap.size=L at*;have HL:=qqh hL;clear hL;go_loopw[30] (fun s30 wr=>∃i:Nat,i<=m/\s30=.int .i64 i/\yQ wr g b (1+(ss.take i).sum)/\wr.heap[L]?=some (.cells (ints (fillI (numsAt b 1 ss) i)).toArray 3 (0,0))/\Upd (fun j=>j=g\/j=L) w8 wr) (fun s30 _=>m-(intOf s30).toNat)
  case atStart=>exact⟨0,qYf _,rfl,by simpa using H8.o.2.2.1,by rw[H8.o.2.1];simp[fillI,natsI,zQ,H8.o.2.2.2.2.2.2.2.2.2.2.1],uur _ _⟩
  case round=>
   obtain⟨i,hi,rfl,hR,hL,hu⟩:=hrel;obtain⟨hua,hgL,hR8,a1,a3,a4,hs7,gslt,u7,hss,hm,hN⟩:=H8.o;by_cases hlt:i<m
   .have hil:i<ss.length:=oM;have x1:wr.cell? ⟨gs,i,none⟩=some (.int .i64 (ss[i]:Int)):=hu.j4 (hua.j4 (hs7 i hil) id) oM;have hsi:=hss.1 ss[i] (qyz hil);obtain⟨t1,t2⟩:=Qt ss hil;have hng:¬L=g:=oM;have hcx:∃v,wr.cell? ⟨L,i,none⟩=some v:=by
     rw[za hL];exact⟨_,qxe (by rw[qXm,xi,UL _ (by rw[zQ];omega),zQ];omega)⟩
    have hnx:Hid ((ints (fillI (numsAt b 1 ss) i)).toArray.setIfInBounds i (.int .i64 ((numB ((b.drop (1+(ss.take i).sum)).take ss[i]):Nat):Int))=(ints (fillI (numsAt b 1 ss) (i+1))).toArray):=by
     show _=_;rw[qXi,YM,<-Wm b 1 ss i hil,UM _ (by rw[zQ];exact hil)]
    have hsum:Hid (1+(ss.take (i+1)).sum=1+(ss.take i).sum+ss[i]):=by show _=_;omega
    have b1:(0:Int)<=(i:Int)/\(i:Int)<(m:Int):=oM;have hbd:1+(ss.take i).sum+ss[i]<=60:=oM;have HX2:=Y6 hR hL hu hsi hbd hcx;clear hua hgL hR8 a1 a3 a4 hs7 gslt u7 hss hm hN t1 t2 hR hL hu hcx hbd hsi;obtain⟨b1,b2⟩:=b1;generalize ss[i]=si at*;go_wp2_with fail
    refine(EW HX2.o.1 si HX2.o.2.2.2.1.1 HX2.o.2.2.2.1.2 HX2.o.2.2.2.2.1).mono ?_;rintro e w9 ⟨rfl,hR9,hU9⟩;have hL9:=(hU9.block L (zf HX2.o.2.1) hng).trans HX2.o.2.1;obtain⟨v0,hv0⟩:=HX2.o.2.2.2.2.2;have c9:=hU9.j4 hv0 hng;have z9:=zg hL9 i;have hL10:=zi hL9 i (.int .i64 ((numB ((b.drop (1+(ss.take i).sum)).take si):Nat):Int));rw[hnx.out]at hL10;have hR10:=hR9.keep (zj w9 L i (.int .i64 ((numB ((b.drop (1+(ss.take i).sum)).take si):Nat):Int))) (fun e=>hng e.symm);rw[<-hsum.out]at hR10;have hU10:Upd (fun j=>j=g\/j=L) w8 (w9.setCell ⟨L,i,none⟩ (.int .i64 ((numB ((b.drop (1+(ss.take i).sum)).take si):Nat):Int))):=
     HX2.o.2.2.1.trans ((hU9.mono (fun _ _ h=> .inl h)).trans ((zj _ _ _ _).mono (fun _ _ h=> .inr h)))
    have HZ:=Y3 hR10 hL10 hU10;clear hL9 hv0 hL10 hR10 hU10 hU9 hR9;go_wp2
    go_roundw
    case rel=>exact⟨i+1,oM,by go_num,HZ.o.1,HZ.o.2.1,HZ.o.2.2⟩
    case measure=>simp[intOf];omega
   .obtain rfl:i=m:=oM;rw[qXp oM]at hR;have hl5:i=(numsAt b 1 ss).length:=by rw[zQ];omega
    rw[show fillI (numsAt b 1 ss) i=natsI (numsAt b 1 ss) by rw[hl5];exact UN _]at hL;clear hl5;have u8r:Upd (fun j=>j=g\/j=L) w7 wr:=(hua.mono fE).trans hu;have hLw:w.heap.size+4<=L:=hM7;have hlw:Below w.heap.size w wr:=by
     refine zk (zk (qxl _ w) u7 (qXv _) (fun k e=>oM)) u8r (qXv _) (fun k e=>oM)
    have e1:=(u8r.block _ (zf a1) oM).trans a1;have e3:=(u8r.block _ (zf a3) oM).trans a3;have e4:=(u8r.block _ (zf a4) oM).trans a4;have hErr:∀W,Below wr.heap.size wr W->W.rangeAt (w.heap.size+1+1+1) 0 Z/\W.there (w.heap.size+1+1) 0 n6a/\Below w.heap.size w W:=fun W hW=>by
     have f3:=(hW.block _ (zf e3)).trans e3;refine⟨zh ((hW.block _ (zf e4)).trans e4),fun j hj=>?_,hlw.trans (hW.mono hlw.size)⟩;rw[za f3,zg f3];exact⟨by rw[qYe,qxe jS];rfl,rfl⟩
    have m0:wr.cell? ⟨w.heap.size,0,none⟩=some (.int .i64 (k:Int)):=za e1 0;have m3:wr.cell? ⟨w.heap.size,3,none⟩=some (.func (.func fm) #[] cm):=za e1 3;have m4:wr.cell? ⟨w.heap.size,4,none⟩=some (.func (.func fb) #[] cb):=za e1 4;have HE:=Y6 hErr m3 m4 hR (zh hL) hlw;obtain⟨rz,tz,hbz⟩:=hErr wr (qxl _ _);clear hua hgL hR8 a1 a3 a4 hs7 gslt u7 hss hm hN hR hL hu u8r hlw e1 e3 e4 hErr m3 m4;by_cases hkk:kb=k
    .have hq:((kb:Int)==(k:Int))=true:=by rw[hkk];simp
     have hq2:((kb:Int) !=(k:Int))=false:=by rw[hkk];simp
     have HKK:=qqh hkk;clear hkk rz tz hbz;go_wp2_with fail
     refine(zdm HE.o.2.2.2.1).mono ?_;rintro e w10 ⟨rfl,hb10⟩;obtain⟨rz,tz,hbz⟩:=HE.o.1 w10 hb10;have m3:=(uuo (S:=fun _=>False) hb10).j4 HE.o.2.1 id;have m4:=(uuo (S:=fun _=>False) hb10).j4 HE.o.2.2.1 id;have rL:=Below.range hb10 HE.o.2.2.2.2.1;have H10:=Y3 hb10 rL m4;clear rL m4 hb10;have HBz:=qqh hbz;clear hbz;by_cases hen:endB b (1+ss.sum)=true
     .have he0:endC b (1+ss.sum)=0:=if_pos hen;rw[he0];clear he0 rz tz;have HEN:=qqh hen;clear hen;go_wp2_with fail
      refine(H.o.2.2.1 w10 L i rfl HBz.out H10.o.2.1).mono ?_;rintro e w11 ⟨rfl,hb11⟩;obtain⟨rz,tz,hbz11⟩:=HE.o.1 w11 (H10.o.1.trans (hb11.mono H10.o.1.size));have m4:=(uuo (S:=fun _=>False) hb11).j4 H10.o.2.2 id;have rL:=Below.range hb11 H10.o.2.1;have HBz11:=qqh hbz11;have HRL:=qqh rL;have HBz11b:=qqh hb11;clear rL hbz11 hb11;cases mb with
      |true=>
       have HR:Hid (okGet b k ss true=true):=by
        show _=_;simp only[okGet,HS.o,HEN.o,decide_true,qxp,Bool.and_true,qYz];have:=HK.o;rw[qyc]at this;rw[<-this,HKK.o]
       clear rz tz;go_wp2_with fail
       refine(H.o.2.2.2.1 HR.o w11 L i rfl HBz11.out HRL.o).mono ?_;rintro e w12 ⟨rfl,hb12⟩;obtain⟨-,tz,hbz12⟩:=HE.o.1 w12 ((H10.o.1.trans ((HBz11b.out).mono H10.o.1.size)).trans (hb12.mono (by have:=H10.o.1.size;have:=HBz11b.out.size;omega)));have hdl:ds.length=n6a:=by have h1:=HC.o.1;rw[q7a]at h1;injection h1 with h1;exact h1.symm
       have hst:w12.there (w.heap.size+1+1) 0 ds.toArray.size:=by rw[show ds.toArray.size=n6a by simpa using hdl];exact tz
       have hst2:w12.there (w.heap.size+1+1) 0 ds.length:=by rw[hdl];exact tz
       have hsz2:(prog.info? n5a).map (·.size)=some ds.toArray.size:=by rw[show ds.toArray.size=n6a by simpa using hdl];exact q7a
       have HST:=Y4 hst hsz2 hst2 hbz12;clear hst hsz2 hst2 hdl hbz12 tz hb12;go_wp2_with (first
        |(refine qZi rfl _ _ _ rfl _ _ ds.toArray rfl rfl HST.o.1 HST.o.2.1 (qYu HC.o.2.1) ?_)
        |fail)
       exact qYw (zt rfl _ _ (w.heap.size+1+1) 0 ds _ rfl (qYr _ _ _ _ HST.o.2.2.1) Rb rfl HC.o.1) rfl
        ⟨⟨ds,fun _=>rfl,fun h=>jD,by rw[show yO b k ss true=0 from if_pos HR.o];rfl⟩,zk HST.o.2.2.2 (zq _ (w.heap.size+1+1) 0 _) (qXv _) (fun k e=>oM)⟩
      |false=>
       have HR:Hid (okGet b k ss false=false):=by show _=_;simp[okGet]
       go_wp2_with (first
        |(refine qZg rfl _ _ rfl _ _ rfl _ _ rz Rb rfl hsZ.out ?_)
        |(refine qZi rfl _ _ _ rfl _ _ Z.toArray rfl rfl (by rw[hZs.out];exact tz) hsA.out hZ1.out ?_)
        |fail)
       exact qYw (zt rfl _ _ (w.heap.size+1+1) 0 Z _ rfl (qYr _ _ _ _ (by first|(rw[hZs.out];exact tz)|(rw[hZl.out];exact tz))) Rb rfl hsZ.out) rfl
        ⟨⟨_,fun h=>jD,fun _=>rfl,by rw[qH HS.o HR.o,HZ.o];rfl⟩,zk HBz11.out (zq _ (w.heap.size+1+1) 0 _) (qXv _) (fun k e=>oM)⟩
     .have he0:endC b (1+ss.sum)=12:=if_neg hen;rw[he0];clear he0;have HR:Hid (okGet b k ss mb=false):=by show _=_;simp[okGet,hen]
      clear hen;go_wp2_with (first
       |(refine qZg rfl _ _ rfl _ _ rfl _ _ rz Rb rfl hsZ.out ?_)
       |(refine qZi rfl _ _ _ rfl _ _ Z.toArray rfl rfl (by rw[hZs.out];exact tz) hsA.out hZ1.out ?_)
       |fail)
      exact qYw (zt rfl _ _ (w.heap.size+1+1) 0 Z _ rfl (qYr _ _ _ _ (by first|(rw[hZs.out];exact tz)|(rw[hZl.out];exact tz))) Rb rfl hsZ.out) rfl
       ⟨⟨_,fun h=>jD,fun _=>rfl,by rw[qH HS.o HR.o,HZ.o];rfl⟩,zk HBz.out (zq _ (w.heap.size+1+1) 0 _) (qXv _) (fun k e=>oM)⟩
    .have hq:((kb:Int)==(k:Int))=false:=by rw[qYv];omega
     have hq2:((kb:Int) !=(k:Int))=true:=by rw[bne_iff_ne];omega
     have HR:Hid (okGet b k ss mb=false):=by
      show _=_;have:=HK.o;rw[qyc]at this;simp[okGet,<-this,hkk]
     have HBz:=qqh hbz;clear hkk hbz;go_wp2_with (first
      |(refine qZg rfl _ _ rfl _ _ rfl _ _ rz Rb rfl hsZ.out ?_)
      |(refine qZi rfl _ _ _ rfl _ _ Z.toArray rfl rfl (by rw[hZs.out];exact tz) hsA.out hZ1.out ?_)
      |fail)
     exact qYw (zt rfl _ _ (w.heap.size+1+1) 0 Z _ rfl (qYr _ _ _ _ (by first|(rw[hZs.out];exact tz)|(rw[hZl.out];exact tz))) Rb rfl hsZ.out) rfl
      ⟨⟨_,fun h=>jD,fun _=>rfl,by rw[qH HS.o HR.o,HZ.o];rfl⟩,zk HBz.out (zq _ (w.heap.size+1+1) 0 _) (qXv _) (fun k e=>oM)⟩
 .have hsc:sealedC b=13:=if_neg hsl;have hres:=Wn (k:=k) (ss:=ss) (mb:=mb) hsl;rw[hsc];have HR:=qqh hres;clear hsc hsl hres;obtain⟨g1,g2,g3,g4,u5,z4,z5⟩:=H5.o;have r4:=zh g4;have hth:w5.there (w.heap.size+1+1) 0 n6a:=fun j hj=>by
   rw[za g3,zg g3];exact⟨by rw[qYe,qxe jS];rfl,rfl⟩
  have HU:=qqh u5;clear g1 g2 g3 g4 u5 z4 z5;go_wp2_with (first
   |(refine qZg rfl _ _ rfl _ _ rfl _ _ r4 Rb rfl hsZ.out ?_)
   |(refine qZi rfl _ _ _ rfl _ _ Z.toArray rfl rfl (by rw[hZs.out];exact hth) hsA.out hZ1.out ?_)
   |fail)
  refine qYw (zt rfl _ _ (w.heap.size+1+1) 0 Z _ rfl (qYr _ _ _ _ (by first|(rw[hZs.out];exact hth)|(rw[hZl.out];exact hth))) Rb rfl hsZ.out) rfl
   ⟨⟨_,fun h=>(by rw[HR.o.1]at h;cases h),fun _=>rfl,by rw[HR.o.2,HZ.o];rfl⟩,zk (Upd.below HU.o) (zq w5 (w.heap.size+1+1) 0 _) (qXv _) (fun k e=>oM)⟩):P:=h
def tQ:List Value:=[Value.int .i64 0,.int .i64 0,.int .i64 0,.int .i64 0,.int .i64 0,.bool false,.int .i64 0]
theorem ZH:(tQ.toArray).all (·.oneCell')=true:=by simp[tQ,Value.oneCell']
namespace fGetR
abbrev n1a:Nat:=296
theorem q2a:type_of% @func177:= @func177
theorem q3a:type_of% @ntmps177:= @ntmps177
abbrev d4a:= @tQ
abbrev n5a:Nat:=101
abbrev n6a:Nat:=7
theorem q7a:type_of% @infoThR:= @infoThR
theorem q8a:type_of% @ZH:= @ZH
theorem Rb:type_of% @underlying101:= @underlying101
end fGetR
open fGetR in
theorem Rc{w:World}(b:Bk)(hb:b.length=64)(k:Nat)(ss:List Nat)(hss:(∀s∈ss,1<=s/\s<=7)/\ss.sum<=59)(m:Nat)(hm:ss.length=m)(hm2:m<=100)(gs cl:Nat)(fm fb:Nat)(cm cb:Array Value)(tv:Value)(mb:Bool)(ds:List Value)
  (hds:(prog.info? 101).map (·.size)=some ds.length) (hd1:∀v∈ds,v.oneCell'=true) (hs:w.rangeAt gs 0 (ints (natsI ss))) (hN:Nib w)
  (entM:∀args w,(callFunc fm args).run prog w=.ok (.enter fm args) w) (entB:∀args w,(callFunc fb args).run prog w=.ok (.enter fb args) w)
  (hmay:∀W gl c,c=m->Below w.heap.size w W->W.rangeAt gl 0 (ints (natsI (numsAt b 1 ss)))->Calls prog fm (#[.slice (some ⟨gl,0,none⟩) m c]++cm) W fun e W'=>e=.returned (.bool mb)/\Below W.heap.size W W')
  (hbuild:okGet b k ss mb=true->∀W gl c,c=m->Below w.heap.size w W->W.rangeAt gl 0 (ints (natsI (numsAt b 1 ss)))->Calls prog fb (#[.slice (some ⟨gl,0,none⟩) m c]++cb) W fun e W'=>e=.returned (.agg ds.toArray)/\Below W.heap.size W W'):
  Calls prog 177 #[.agg #[.int .i64 (k:Int),.slice (some ⟨gs,0,none⟩) m cl,tv,.func (.func fm) #[] cm,.func (.func fb) #[] cb],.agg (bkC b).toArray] w
   (yy w (okGet b k ss mb) ds tQ (yO b k ss mb)):=wy
def zeroS:List Value:=[Value.int .i64 0,.int .i64 0,.int .i64 0,.int .i64 0,.int .i64 0,.int .i64 0,.int .i64 0]
theorem qX:(zeroS.toArray).all (·.oneCell')=true:=by simp[zeroS,Value.oneCell']
namespace fGetS
abbrev n1a:Nat:=137
theorem q2a:type_of% @func129:= @func129
theorem q3a:type_of% @ntmps129:= @ntmps129
abbrev d4a:= @zeroS
abbrev n5a:Nat:=40
abbrev n6a:Nat:=7
theorem q7a:type_of% @yz:= @yz
theorem q8a:type_of% @qX:= @qX
theorem Rb:type_of% @underlying40:= @underlying40
end fGetS
open fGetS in
theorem Re{w:World}(b:Bk)(hb:b.length=64)(k:Nat)(ss:List Nat)(hss:(∀s∈ss,1<=s/\s<=7)/\ss.sum<=59)(m:Nat)(hm:ss.length=m)(hm2:m<=100)(gs cl:Nat)(fm fb:Nat)(cm cb:Array Value)(tv:Value)(mb:Bool)(ds:List Value)
  (hds:(prog.info? 40).map (·.size)=some ds.length) (hd1:∀v∈ds,v.oneCell'=true) (hs:w.rangeAt gs 0 (ints (natsI ss))) (hN:Nib w)
  (entM:∀args w,(callFunc fm args).run prog w=.ok (.enter fm args) w) (entB:∀args w,(callFunc fb args).run prog w=.ok (.enter fb args) w)
  (hmay:∀W gl c,c=m->Below w.heap.size w W->W.rangeAt gl 0 (ints (natsI (numsAt b 1 ss)))->Calls prog fm (#[.slice (some ⟨gl,0,none⟩) m c]++cm) W fun e W'=>e=.returned (.bool mb)/\Below W.heap.size W W')
  (hbuild:okGet b k ss mb=true->∀W gl c,c=m->Below w.heap.size w W->W.rangeAt gl 0 (ints (natsI (numsAt b 1 ss)))->Calls prog fb (#[.slice (some ⟨gl,0,none⟩) m c]++cb) W fun e W'=>e=.returned (.agg ds.toArray)/\Below W.heap.size W W'):
  Calls prog 129 #[.agg #[.int .i64 (k:Int),.slice (some ⟨gs,0,none⟩) m cl,tv,.func (.func fm) #[] cm,.func (.func fb) #[] cb],.agg (bkC b).toArray] w
   (yy w (okGet b k ss mb) ds zeroS (yO b k ss mb)):=wy
def vO:List Value:=[Value.int .i64 0,.int .i64 0,.int .i64 0,.int .i64 0,.int .i64 0,.int .i64 0,.bool false,.int .i64 0,.int .i64 0,.int .i64 0,.bool false,.int .i64 0,.int .i64 0,.int .i64 0,.bool false,.int .i64 0,.int .i64 0,.int .i64 0,.bool false,.int .i64 0]
theorem ZI:(vO.toArray).all (·.oneCell')=true:=by simp[vO,Value.oneCell']
namespace fGetP
abbrev n1a:Nat:=380
theorem q2a:type_of% @func245:= @func245
theorem q3a:type_of% @ntmps245:= @ntmps245
abbrev d4a:= @vO
abbrev n5a:Nat:=280
abbrev n6a:Nat:=20
theorem q7a:type_of% @wv:= @wv
theorem q8a:type_of% @ZI:= @ZI
theorem Rb:type_of% @underlying280:= @underlying280
end fGetP
open fGetP in
theorem Rf{w:World}(b:Bk)(hb:b.length=64)(k:Nat)(ss:List Nat)(hss:(∀s∈ss,1<=s/\s<=7)/\ss.sum<=59)(m:Nat)(hm:ss.length=m)(hm2:m<=100)(gs cl:Nat)(fm fb:Nat)(cm cb:Array Value)(tv:Value)(mb:Bool)(ds:List Value)
  (hds:(prog.info? 280).map (·.size)=some ds.length) (hd1:∀v∈ds,v.oneCell'=true) (hs:w.rangeAt gs 0 (ints (natsI ss))) (hN:Nib w)
  (entM:∀args w,(callFunc fm args).run prog w=.ok (.enter fm args) w) (entB:∀args w,(callFunc fb args).run prog w=.ok (.enter fb args) w)
  (hmay:∀W gl c,c=m->Below w.heap.size w W->W.rangeAt gl 0 (ints (natsI (numsAt b 1 ss)))->Calls prog fm (#[.slice (some ⟨gl,0,none⟩) m c]++cm) W fun e W'=>e=.returned (.bool mb)/\Below W.heap.size W W')
  (hbuild:okGet b k ss mb=true->∀W gl c,c=m->Below w.heap.size w W->W.rangeAt gl 0 (ints (natsI (numsAt b 1 ss)))->Calls prog fb (#[.slice (some ⟨gl,0,none⟩) m c]++cb) W fun e W'=>e=.returned (.agg ds.toArray)/\Below W.heap.size W W'):
  Calls prog 245 #[.agg #[.int .i64 (k:Int),.slice (some ⟨gs,0,none⟩) m cl,tv,.func (.func fm) #[] cm,.func (.func fb) #[] cb],.agg (bkC b).toArray] w
   (yy w (okGet b k ss mb) ds vO (yO b k ss mb)):=wy
theorem wD{P:Prop}(h:P:=by
 have HN:=qqh hN;have Hb:=qqh hb;clear hN hb;go_enter q1b,q2b
 go_wp2_with fail
 change Code.wp _ _ _ _ ((w.alloc (.cells (bkC b).toArray 54)).alloc (.cells d3b.toArray n4b))
 have hr:((w.alloc (.cells (bkC b).toArray 54)).alloc (.cells d3b.toArray n4b)).rangeAt w.heap.size 0 (bkC b):=qYp (zh (zc w _ rfl)) _;have hg:((w.alloc (.cells (bkC b).toArray 54)).alloc (.cells d3b.toArray n4b)).heap[w.heap.size+1]?=some (.cells d3b.toArray n4b):=zc _ _ oe;have hu:Upd (fun _=>False) w ((w.alloc (.cells (bkC b).toArray 54)).alloc (.cells d3b.toArray n4b)):=((uur _ w).alloc _).alloc _;generalize (w.alloc (.cells (bkC b).toArray 54)).alloc (.cells d3b.toArray n4b)=w2 at*;have hb2:Below w.heap.size w w2:=Upd.below hu;refine qZj (S:=fun W=>W.rangeAt w.heap.size 0 (bkC b)) kR oE (fun hHeld=>?_);refine Wl.l 1 (fun w h=>h) underlying54 (zw _ Hb.out) hHeld ?_;refine Wl.r 0 (fun K hK=>?_);go_simp
 refine(q5b _).mono ?_;rintro e w3 ⟨gs,gt,rfl,hF,hb3⟩;have hb3':Below w2.heap.size w2 w3:=yu hb3;refine hK.o _ _ (Below.range hb3 hHeld) (fun hHeld2=>?_);clear hK K;refine Wl.r 2 (fun K hK=>?_);go_simp
 refine(q6b hF ((HN.o.keep hu id).below hb3') b Hb.out).mono ?_;rintro e w4 ⟨⟨rs,hr1,hr2,rfl⟩,hb4⟩;have hb4':Below w2.heap.size w2 w4:=hb3'.trans (hb4.mono hb3'.size);have hg4:=(hb4'.block _ (zf hg)).trans hg;have hth:w4.there (w.heap.size+1) 0 n7b:=fun j hj=>by
  rw[za hg4,zg hg4];exact⟨by rw[qYe,qxe (by rw[qXm];exact hj)];rfl,rfl⟩
 have hrl:rs.length=n7b/\∀v∈rs,v.oneCell'=true:=by
  cases hk:d8b b with
  |true=>rw[hr1 hk];exact⟨q9b _,AM _⟩
  |false=>rw[hr2 hk];exact⟨rfl,qxw.1 (by simpa using q11b:d3b.all (·.oneCell')=true)⟩
 have hst:w4.there (w.heap.size+1) 0 rs.toArray.size:=by rw[show rs.toArray.size=n7b by simpa using hrl.1];exact hth
 have hst2:w4.there (w.heap.size+1) 0 rs.length:=by rw[hrl.1];exact hth
 have hsz2:(prog.info? n4b).map (·.size)=some rs.toArray.size:=by rw[show rs.toArray.size=n7b by simpa using hrl.1];exact JN
 have hsz3:(prog.info? n4b).map (·.size)=some rs.length:=by rw[hrl.1];exact JN
 have hU5:Below w.heap.size w (w4.setCells (w.heap.size+1) 0 rs):=zk (hb2.trans (hb4'.mono hu.size)) (zq w4 (w.heap.size+1) 0 _) (qXv _) (fun k e=>oM);refine hK.o _ _ (Below.range hb4 hHeld2) (fun hHeld3=>?_);clear hK K;refine Wl.i [3,4] ?_;iterate 2 refine Wl.t hHeld3 ?_
 refine Wl.o ?_;refine Wl.r 5 (fun K hK=>?_);rw[if_pos oD];refine qZk _ _ _ rfl _ _ (List.toArray _) rfl rfl (hst) (hsz2) (qYu hrl.2) ?_;simp only[Act.put,qXi];refine hK.o _ _ ((zq w4 (w.heap.size+1) 0 rs).range hHeld3 oM) (fun hHeld4=>?_);clear hK K;refine Wl.r 6 (fun K hK=>?_);go_simp
 refine hK.o _ _ (hHeld4) (fun _=>?_);clear hK K;refine Wl.d ?_;have HE:=Y5 hU5 hst2 hsz3 hr1 hr2;clear hst hst2 hsz2 hsz3 hU5 hth hg4 hb4 hb4' hb3 hb3' hHeld hHeld2 hHeld3 hHeld4 hF hr hg hu hb2 hr1 hr2 hrl;go_wp2
 exact qYw (zt rfl _ _ (w.heap.size+1) 0 rs _ rfl (qYr _ _ _ _ HE.o.2.1) AN rfl HE.o.2.2.1) rfl ⟨⟨rs,HE.o.2.2.2.1,HE.o.2.2.2.2,rfl⟩,HE.o.1⟩):P:=h
def numsR(b:Bk):List Nat:=numsAt b 1 UO
def okR(b:Bk):Bool:=okGet b 2 UO (mayR (natsI (numsR b)))
def cdR(b:Bk):Int:=yO b 2 UO (mayR (natsI (numsR b)))
def Xh(w:World)(b:Bk):Ending->World->Prop:=yy w (okR b) (dsR (natsI (numsR b))) tQ (cdR b)
theorem sY{w:World}{gs gt:Nat}(hF:Qw w gs gt)(hN:Nib w)(b:Bk)(hb:b.length=64):
  Calls prog 177 #[Wp gs gt,.agg (bkC b).toArray] w (Xh w b):=by
 obtain⟨hs,v,hv,hB⟩:=hF;refine Rc (w:=w) b hb 2 UO ⟨by simp[UO],de⟩ 7 rfl de gs 7 252 253 #[.pointer (some ⟨gt,0,none⟩)] #[] (.func (.func 250) #[] #[]) (mayR (natsI (numsR b))) (dsR (natsI (numsR b)))
  (by rw[qm];exact infoThR) (ww _) hs hN (fun _ _=>rfl) (fun _ _=>rfl) ?_ ?_
 .intro W gl c hc hW hr;subst hc;exact qL _ jm (qXv _) de ((uuo (S:=fun _=>False) hW).j4 hv id) (hB.below hW) hr
 .intro _ W gl c hc hW hr;subst hc;exact AK _ jm hr
namespace fGetR2
theorem q1b:type_of% @func107:= @func107
theorem q2b:type_of% @ntmps107:= @ntmps107
abbrev d3b:= @tQ
abbrev n4b:Nat:=101
theorem q5b:type_of% @xI:= @xI
theorem q6b:type_of% @sY:= @sY
abbrev n7b:Nat:=7
abbrev d8b:= @okR
theorem q9b:type_of% @qm:= @qm
theorem AM:type_of% @ww:= @ww
theorem q11b:type_of% @ZH:= @ZH
theorem JN:type_of% @infoThR:= @infoThR
theorem AN:type_of% @underlying101:= @underlying101
end fGetR2
open fGetR2 in
theorem Rg{w:World}(hN:Nib w)(b:Bk)(hb:b.length=64):
  Calls prog 107 #[.agg (bkC b).toArray] w (Xh w b):=wD
def numsS(b:Bk):List Nat:=numsAt b 1 szS
def okS(b:Bk):Bool:=okGet b 1 szS (mayS (natsI (numsS b)))
def cdS(b:Bk):Int:=yO b 1 szS (mayS (natsI (numsS b)))
def Xi(w:World)(b:Bk):Ending->World->Prop:=yy w (okS b) (dsS (natsI (numsS b))) zeroS (cdS b)
theorem sZ{w:World}{gs gt:Nat}(hF:QK w gs gt)(hN:Nib w)(b:Bk)(hb:b.length=64):
  Calls prog 129 #[Wz gs gt,.agg (bkC b).toArray] w (Xi w b):=by
 obtain⟨hs,hB⟩:=hF;refine Re (w:=w) b hb 1 szS ⟨by simp[szS],de⟩ 7 rfl de gs 7 196 127 #[.pointer (some ⟨gt,0,none⟩)] #[] (.func (.func 125) #[] #[]) (mayS (natsI (numsS b))) (dsS (natsI (numsS b)))
  (by rw[qk];exact yz) (ql _) hs hN (fun _ _=>rfl) (fun _ _=>rfl) ?_ ?_
 .intro W gl c hc hW hr;subst hc;exact YY _ ji (qXv _) de (hB.below hW) hr
 .intro _ W gl c hc hW hr;subst hc;exact AJ _ ji hr
namespace fGetS2
theorem q1b:type_of% @func68:= @func68
theorem q2b:type_of% @ntmps68:= @ntmps68
abbrev d3b:= @zeroS
abbrev n4b:Nat:=40
theorem q5b:type_of% @vW:= @vW
theorem q6b:type_of% @sZ:= @sZ
abbrev n7b:Nat:=7
abbrev d8b:= @okS
theorem q9b:type_of% @qk:= @qk
theorem AM:type_of% @ql:= @ql
theorem q11b:type_of% @qX:= @qX
theorem JN:type_of% @yz:= @yz
theorem AN:type_of% @underlying40:= @underlying40
end fGetS2
open fGetS2 in
theorem Rh{w:World}(hN:Nib w)(b:Bk)(hb:b.length=64):
  Calls prog 68 #[.agg (bkC b).toArray] w (Xi w b):=wD
def Xj(w:World)(b:Bk):Ending->World->Prop:=yy w (okP b) (dsP (natsI (numsP b))) vO (cdP b)
theorem Za{w:World}{gs gt:Nat}(hF:Qy w gs gt)(hN:Nib w)(b:Bk)(hb:b.length=64):
  Calls prog 245 #[Wq gs gt,.agg (bkC b).toArray] w (Xj w b):=by
 obtain⟨hs,v,hv,hB⟩:=hF;refine Rf (w:=w) b hb 3 VF ⟨by simp[VF],de⟩ 20 rfl de gs 20 308 310 #[.pointer (some ⟨gt,0,none⟩)] #[] (.func (.func 307) #[] #[]) (mayP (natsI (numsP b))) (dsP (natsI (numsP b)))
  (by rw[vy];exact wv) (vz _) hs hN (fun _ _=>rfl) (fun _ _=>rfl) ?_ ?_
 .intro W gl c hc hW hr;subst hc;exact qM _ jj (qXv _) de ((uuo (S:=fun _=>False) hW).j4 hv id) (hB.below hW) hr
 .intro _ W gl c hc hW hr;subst hc;exact AL _ jj hr (qXv _) de
namespace fGetP2
theorem q1b:type_of% @func172:= @func172
theorem q2b:type_of% @ntmps172:= @ntmps172
abbrev d3b:= @vO
abbrev n4b:Nat:=280
theorem q5b:type_of% @vu:= @vu
theorem q6b:type_of% @Za:= @Za
abbrev n7b:Nat:=20
abbrev d8b:= @okP
theorem q9b:type_of% @vy:= @vy
theorem AM:type_of% @vz:= @vz
theorem q11b:type_of% @ZI:= @ZI
theorem JN:type_of% @wv:= @wv
theorem AN:type_of% @underlying280:= @underlying280
end fGetP2
open fGetP2 in
theorem Xk{w:World}(hN:Nib w)(b:Bk)(hb:b.length=64):
  Calls prog 172 #[.agg (bkC b).toArray] w (Xj w b):=wD
end Go.Proofs.YtfhfbpmlnjdfoaaGreatDoor
