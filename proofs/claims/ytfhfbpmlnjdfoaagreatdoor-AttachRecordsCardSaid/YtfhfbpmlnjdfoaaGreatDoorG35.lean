/- A cache: Wipe, where nothing is planned; secto -/
import Derived.Test.YtfhfbpmlnjdfoaaGreatDoorG34
set_option maxRecDepth 100000
set_option maxHeartbeats 2000000
namespace Go.Proofs.YtfhfbpmlnjdfoaaGreatDoor
open Go Go.RowKit
section
variable{n:CaN}{a:CaS}
theorem SC(F:List Bk)(L:List (Nat×Bk)):∀O,wrsR F L O []=⟨F,O++L,[],0⟩:=by
 induction L with
 |nil=>intro O;simp[wrsR]
 |cons x L ih=>intro O;rw[wrsR,XD];dsimp only;rw[if_pos rfl,ih];simp
theorem SD(F:List Bk)(O L:List (Nat×Bk)):saveR F O [] L=⟨flushF F (O++L),[],[],0⟩:=by
 unfold saveR;rw[SC,if_pos rfl,vA]
theorem CaS.NoP.ckpt_eq(h:a.NoP):a.ckpt n=({a with bF:=flushF a.bF a.bO,bO:=[],bP:=[],dF:=flushF (flushF a.dF a.dO) (ckO (1+(1-a.which)*n.pa) n.pa (pagesB (a.next-1) (a.ents n))),dO:=[],dP:=[],which:=1-a.which,cov:=a.next-1,W:=[],st:=freeTo a.st (pos a.st 3)},0):=by
 obtain⟨h1,h2⟩:=h;have e1:flushR a.bF a.bO a.bP=⟨flushF a.bF a.bO,[],[],0⟩:=by rw[h2];rfl
 have e2:flushR a.fb.dF a.fb.dO a.fb.dP=⟨flushF a.dF a.dO,[],[],0⟩:=by show flushR a.dF a.dO a.dP=_;rw[h1];rfl
 have e3:a.fb.fd.svR n=⟨flushF (flushF a.dF a.dO) (ckO (1+(1-a.which)*n.pa) n.pa (pagesB (a.next-1) (a.ents n))),[],[],0⟩:=by
  have:a.fb.fd.svR n=saveR (flushR a.dF a.dO a.dP).F (flushR a.dF a.dO a.dP).O (flushR a.dF a.dO a.dP).P (ckO (1+(1-a.which)*n.pa) n.pa (pagesB (a.next-1) (a.ents n))):=rfl;rw[this,h1];exact SD _ _ _
 unfold CaS.ckpt;rw[if_neg (by rw[e1];exact fun h=>h rfl),if_neg (by rw[e2];exact fun h=>h rfl),if_neg (by rw[e3];exact fun h=>h rfl)];refine Prod.ext ?_ rfl;show a.fb.fd.ckd n=_;unfold CaS.ckd;rw[e3];show({a.fb.fd with dF:=_,dO:=_,dP:=_,which:=_,cov:=_,W:=_,st:=_}:CaS)=_;have e4:a.fb.fd={a with bF:=flushF a.bF a.bO,bO:=[],bP:=[],dF:=flushF a.dF a.dO,dO:=[],dP:=[]}:=by
  unfold CaS.fd CaS.fb;rw[e1];show({a with bF:=_,bO:=_,bP:=_,dF:=(flushR a.dF a.dO a.dP).F,dO:=(flushR a.dF a.dO a.dP).O,dP:=(flushR a.dF a.dO a.dP).P}:CaS)=_;rw[h1];rfl
 rw[e4]
end
theorem uM{k:Nat}(hk:k<256){sz:List Nat}{xs:List Int}(h:xs.length=sz.length)(h0:∀x∈xs,0<=x)(hf:sR (numL sz xs))(mb:Bool):
  okGet (sectB k (numL sz xs)) k sz mb=mb/\natsI (numsAt (sectB k (numL sz xs)) 1 sz)=xs:=by
 have h2:(numL sz xs).map (·.2)=sz:=by unfold numL;rw[List.map_snd_zip (by simp[h])]
 obtain⟨s1,s2⟩:=Sy hk hf mb;rw[h2]at s1 s2;refine⟨s1,?_⟩;rw[s2];have:=wO h h0;unfold numsL at this;unfold natsI;rw[qzn];exact this
def numsP(b:Bk):List Nat:=numsAt b 1 szP
def okP(b:Bk):Bool:=okGet b 3 szP (mayP (natsI (numsP b)))
def cdP(b:Bk):Int:=yK b 3 szP (mayP (natsI (numsP b)))
theorem Uk{xs:List Int}(hx:xs.length=20)(h:mayP xs=true):okP (sectP xs)=true/\natsI (numsP (sectP xs))=xs:=by
 obtain⟨h0,hf⟩:=rH hx h;obtain⟨s1,s2⟩:=uM (k:=3) (by decide) (sz:=szP) (by rw[hx];rfl) h0 hf (mayP (natsI (numsP (sectP xs))));have h3:natsI (numsP (sectP xs))=xs:=s2;refine⟨?_,h3⟩;unfold okP;rw[show okGet (sectP xs) 3 szP (mayP (natsI (numsP (sectP xs))))=mayP (natsI (numsP (sectP xs)))from s1,h3];exact h
def entX(xs:List Int)(i:Nat):List Value:=[.int .i64 ((rowI xs i).getD 0 0),.int .i64 ((rowI xs i).getD 1 0),.bool ((rowI xs i).getD 2 0==1),.int .i64 ((rowI xs i).getD 3 0)]
def Ql:List Value:=[.int .i64 0,.int .i64 0,.bool false,.int .i64 0]
def dsPk(xs:List Int)(k:Nat):List Value:=[.int .i64 (xs.getD 0 0),.int .i64 (xs.getD 1 0),.int .i64 (xs.getD 2 0),.int .i64 (xs.getD 3 0)]++(List.range 4).flatMap fun i=>if i<k then entX xs i else Ql
def dsP(xs:List Int):List Value:=dsPk xs 4
theorem xY(xs:List Int)(k:Nat):(dsPk xs k).length=20:=by
 have e:∀i,(if i<k then entX xs i else Ql).length=4:=fun i=>by split<;>rfl
 simp[dsPk,List.range_succ,e]
theorem Yx(xs:List Int)(k:Nat):∀v∈dsPk xs k,v.oneCell'=true:=by
 intro v hv;rcases qzq.1 hv with hv|hv
 .simp only[qzr,qXd,qZb]at hv;rcases hv with rfl|rfl|rfl|rfl<;>rfl
 .obtain ⟨i,-,hi⟩:=qzu.1 hv;split at hi<;>(simp only[entX,Ql,qzr,qXd,qZb]at hi;rcases hi with rfl|rfl|rfl|rfl<;>rfl)
theorem uj(xs:List Int):(dsP xs).length=20:=xY xs 4
theorem uk(xs:List Int):∀v∈dsP xs,v.oneCell'=true:=Yx xs 4
theorem Ul(xs:List Int){k:Nat}(hk:k<4):(dsPk xs k).take (4+k*4)++entX xs k++(dsPk xs k).drop (4+k*4+4)=dsPk xs (k+1):=by
 rcases(show k=0\/k=1\/k=2\/k=3 by omega)with rfl|rfl|rfl|rfl<;>rfl
theorem WP(w:World):(Instr.alloc 280 true (.tuple #[])).run Tryz.prog w=.ok (.pointer (some ⟨w.heap.size,0,none⟩)) (w.alloc (.cells (dsPk [] 0).toArray 280)):=by
 kernel_rfl
theorem Qm(x0 x1 x2 x3:Int)(W:World):(Instr.build 280 #[(0,.int .i64 x0),(1,.int .i64 x1),(2,.int .i64 x2),(3,.int .i64 x3)]).run Tryz.prog W=.ok (.agg ([Value.int .i64 x0,.int .i64 x1,.int .i64 x2,.int .i64 x3]++(List.range 4).flatMap fun _=>Ql).toArray) W:=by
 kernel_rfl
theorem vh{cs' cs:Array Value}{vs:List Value}{o:Nat}(_hs:cs'.size=cs.size)(hl:o+vs.length<=cs.size)(h:∀j,cs'[j]?=if o<=j/\j<o+vs.length/\j<cs.size then vs[j-o]? else cs[j]?):cs'=(cs.toList.take o++vs++cs.toList.drop (o+vs.length)).toArray:=by
 apply qxd
 intro j;rw[h j];simp only[qyv,qxx,List.getElem?_append,qzk,qyu,qym,qxh,Nat.min_eq_left (show o<=cs.size by omega),Array.getElem?_toList];by_cases h1:j<o
 .rw [if_neg (by omega),if_pos h1,if_pos h1]
 .by_cases h2:j<o+vs.length
  .rw [if_pos (by omega),if_neg h1,if_pos (by omega)]
  .rw [if_neg (by omega),if_neg h1,if_neg (by omega)]
   congr 1
   omega
theorem Yy{xs:List Int}{k:Nat}{w:World}{b:Nat}{T:TypeId}(hk:k<4)(h:w.heap[b]?=some (.cells (dsPk xs k).toArray T (0,0))):(w.setCells b (4+k*4) (entX xs k)).heap[b]?=some (.cells (dsPk xs (k+1)).toArray T (0,0)):=by
 obtain⟨cs',h1,h2,h3⟩:=zG (entX xs k) (4+k*4) w b (dsPk xs k).toArray T (0,0) h;rw[h1,vh h2 (by rw[qXm,xY];show 4+k*4+4<=20;omega) h3,<-Ul xs hk];rfl
theorem Ei{w:World}{gl ol cl:Nat}(xs:List Int)(hxl:xs.length=20)(hx:w.rangeAt gl ol (ints xs))(hcl:20<=cl)(hcm:cl<=maxLen):
  Calls Tryz.prog 310 (#[.slice (some ⟨gl,ol,none⟩) 20 cl]++ #[]) w fun e w'=>e=.returned (.agg (dsP xs).toArray)/\Below w.heap.size w w':=by
 have c0:=yw hx 0 (by omega);have c1:=yw hx 1 (by omega);have c2:=yw hx 2 (by omega);have c3:=yw hx 3 (by omega);rw[qXs]at c0;have hlt:gl<w.heap.size:=qYn w _ c0;have h00:dsPk xs 0=[.int .i64 (xs.getD 0 0),.int .i64 (xs.getD 1 0),.int .i64 (xs.getD 2 0),.int .i64 (xs.getD 3 0)]++(List.range 4).flatMap fun _=>Ql:=rfl;have hbl:=Qm (xs.getD 0 0) (xs.getD 1 0) (xs.getD 2 0) (xs.getD 3 0);rw[<-h00]at hbl;have H0:=qqh h00;generalize xs.getD 0 0=x0 at*;generalize xs.getD 1 0=x1 at*;generalize xs.getD 2 0=x2 at*;generalize xs.getD 3 0=x3 at*;obtain⟨Z,hZ⟩:=qqe (dsPk [] 0);have hal:=WP;simp only[<-hZ]at hal;have hZl:Z.toArray.size=20:=by rw[hZ,qXm,xY]
 obtain⟨L,hL⟩:=qqe (dsPk xs 0);rw[<-hL]at hbl;have hLl:L.toArray.size=20:=by rw[hL,qXm,xY]
 have hLi:(Tryz.prog.info? 280).map (·.size)=some L.toArray.size:=by rw[hLl];exact wB
 have hL1:∀v∈L,v.oneCell'=true:=by rw[hL];exact Yx _ _
 obtain⟨w1,hw1⟩:=qqe (w.alloc (.cells Z.toArray 280));have hu1:Upd (fun _=>False) w w1:=by rw[hw1];exact(uur _ w).alloc _
 have g1:w1.heap[w.heap.size]?=some (.cells Z.toArray 280 (0,0)):=by rw[hw1];exact zc w _ rfl
 have z1:w1.heap.size=w.heap.size+1:=by rw[hw1];simp
 have d0:=hu1.cellv c0 (fun h=>h);have d1:=hu1.cellv c1 (fun h=>h);have d2:=hu1.cellv c2 (fun h=>h);have d3:=hu1.cellv c3 (fun h=>h);have HW1:=qqh hw1;have HX:=Y8 hx hxl hcl hcm hu1 g1 z1 hL;clear hx hxl hcl hcm hu1 g1 z1 hL hw1 c0 c1 c2 c3 hZ h00 H0;go_enter Tryz.func310,Tryz.ntmps310
 go_wp2_with (first
  |(refine zT rfl _ rfl _ hal ?_)
  |fail)
 rw[<-HW1.o];refine qZj (S:=fun W=>W.cell? ⟨gl,ol,none⟩=some (.int .i64 x0)/\W.cell? ⟨gl,ol+1,none⟩=some (.int .i64 x1)/\W.cell? ⟨gl,ol+2,none⟩=some (.int .i64 x2)/\W.cell? ⟨gl,ol+3,none⟩=some (.int .i64 x3)) (by kernel_rfl) (by(simp only[qYo]);exact⟨d0,d1,d2,d3⟩) (fun hHeld=>?_);refine Wl.i [0,1,2,3,4,5,6,7,8,9,10,11] ?_;iterate 12 refine Wl.t hHeld ?_
 refine Wl.o ?_;refine qZf (i:=12) (v:=.agg L.toArray) rfl (by kernel_rfl) (by kernel_rfl) (by kernel_rfl) (fun _ _ _ h=>h) (Or.inl ⟨by rfl,fun W _=>?_⟩) hHeld ?_
 .simp only[qzc,qyw,qyx,execOp,qYm,qzp,qzm,qzo]
  change ((Instr.build 280 #[(0,.int .i64 x0),(1,.int .i64 x1),(2,.int .i64 x2),(3,.int .i64 x3)]).run Tryz.prog W).andThen _=_
  rw[hbl];rfl
 simp only[qzc,qyw,qyx,Act.put,qXi,qXl,qXk];refine Wl.r 13 (fun K hK=>?_);rw[if_pos (by rfl)];unfold Oper.wp;simp only[qzc,qyw,qyx,execOp,qYm,hal,qYl];have hZg:=zc w1.drew (.cells Z.toArray 280) rfl;have hua:=(uur (fun _=>False) w1.drew).alloc (.cells Z.toArray 280);obtain⟨w2,hw2⟩:=qqe (w1.drew.alloc (.cells Z.toArray 280));rw[<-hw2]at hZg hua⊢;simp only[World.size_drew]at hZg;have e0:=hua.cellv hHeld.1 (fun h=>h);have e1:=hua.cellv hHeld.2.1 (fun h=>h);have e2:=hua.cellv hHeld.2.2.1 (fun h=>h);have e3:=hua.cellv hHeld.2.2.2 (fun h=>h);refine hK.o _ _ ⟨e0,e1,e2,e3⟩ (fun hH2=>?_);clear hK K;have hth:w2.there w1.heap.size 0 L.toArray.size:=fun j hj=>by
  rw[za hZg,qYe,qxe (by rw[hZl,<-hLl];exact hj)];exact⟨rfl,zf hZg _⟩
 refine Wl.r 14 (fun K hK=>?_);rw[if_pos (by rfl)];refine qZk _ _ _ rfl _ _ L.toArray rfl rfl hth hLi (qYu hL1) ?_;simp only[Act.put,qXi];have hus:=zp w2 w1.heap.size 0 L;have hgl1:gl≠w1.heap.size:=by have:=HX.o.2.2.2.2.2.2.1;omega
 have g3:(w2.setCells w1.heap.size 0 L).heap[w1.heap.size]?=some (.cells L.toArray 280 (0,0)):=by
  obtain⟨cs',q1,q2,q3⟩:=zG L 0 w2 w1.heap.size Z.toArray 280 (0,0) hZg;rw[q1,vh q2 (by rw[hZl,<-hLl,qXm];omega) q3];have:L.length=Z.toArray.size:=by rw[hZl,<-hLl,qXm]
  rw[qYe,List.take_zero,qzz,List.drop_of_length_le (by rw[qxh];omega),qxy]
 obtain⟨hx,hxl,hcl,hcm,hu1,g1,z1,hL⟩:=HX.o;have hu12:Upd (fun _=>False) w1 w2:=((uur _ w1).drew).trans hua;have g13:=(hus.block w.heap.size (by have:=zd g1;have:=hu12.size;omega) (by omega)).trans (hu12.blockv g1);have hu3:Upd (fun j=>j=w1.heap.size) w (w2.setCells w1.heap.size 0 L):=((hu1.trans hu12).mono (fun _ _ h=>h.elim)).trans hus;refine hK.o _ _ ⟨hus.cellv hH2.1 hgl1,hus.cellv hH2.2.1 hgl1,hus.cellv hH2.2.2.1 hgl1,hus.cellv hH2.2.2.2 hgl1⟩ (fun _=>?_);clear hK K;refine Wl.d ?_;rw[z1]at g3 hus hgl1 hu3 g13;simp only[World.size_drew,z1];generalize w2.setCells (w.heap.size+1) 0 L=w3 at*;rw[hL]at g3;have hxd:=((hu1.trans hu12).range hx (fun h=>h))
 have hx3:=hus.range hxd hgl1;have HZ:=qqh hZl;have H3:=Y8 hx3 g3 g13 hu3 hxl hcl hcm hgl1;clear hx hxl hcl hcm hu1 g1 hL hus hZg hua e0 e1 e2 e3 hth hH2 hHeld hu12 g13 hu3 hxd hx3 g3 d0 d1 d2 d3 hw2 hal hbl hLl hLi hL1 hZl HX HW1 hgl1 z1;go_wp2_with fail
 go_loopg[19] 4 (fun g s19 wr=>∃k:Nat,k+g=4/\s19=.int .i64 (k:Int)/\wr.heap[w.heap.size+1]?=some (.cells (dsPk xs k).toArray 280 (0,0))/\Upd (fun j=>j=w.heap.size+1) w3 wr)
 case atStart=>exact⟨0,by omega,rfl,H3.o.2.1,uur _ _⟩
 case round=>
  obtain⟨k,hk,rfl,hg,hu⟩:=hrel;obtain⟨hx3,g3,g13,hu3,hxl,hcl,hcm,hgl1⟩:=H3.o;by_cases hlt:k<4
  .have k1:(k:Int)<4:=by omega
   have k0:(0:Int)<=(k:Int):=by omega
   have HR:=qqh (WD (hu.range hx3 hgl1) hxl hcl hcm k hlt);have hrl:=xS hxl hlt;obtain⟨a0,a1,a2,a3,hrow⟩:∃a0 a1 a2 a3,rowI xs k=[a0,a1,a2,a3]:=by
    match rowI xs k,hrl with
    |[a0,a1,a2,a3],_=>exact⟨_,_,_,_,rfl⟩
   rw[hrow]at HR;have hE:Hid (entX xs k=[.int .i64 a0,.int .i64 a1,.bool (a2==1),.int .i64 a3]):=by show _=_;unfold entX;rw[hrow];rfl
   have HG:=Y2 hg hu;clear hx3 g3 g13 hu3 hxl hcl hcm hgl1 hg hu hrl hrow;go_wp2_with fail
   refine HR.o.mono ?_;rintro e w4 ⟨rfl,hb4⟩;have hua:Upd (fun _=>False) wr (w4.alloc (.cells #[.int .i64 a0,.int .i64 a1,.int .i64 a2,.int .i64 a3] 419)):=(uuo hb4).alloc _;have hg5:=hua.blockv HG.o.1;have hth:(w4.alloc (.cells #[.int .i64 a0,.int .i64 a1,.int .i64 a2,.int .i64 a3] 419)).there (w.heap.size+1) (4+k*4) 4:=fun j hj=>by
    rw[za hg5,zf hg5,qxe (by rw[qXm,xY];omega)];exact⟨rfl,rfl⟩
   have HU:=Y2 hua hg5;obtain⟨E,hEE⟩:∃E:List Value,E=[.int .i64 a0,.int .i64 a1,.bool (a2==1),.int .i64 a3]:=⟨_,rfl⟩
   have hone:E.toArray.all (·.oneCell')=true:=by rw[hEE];simp[Value.oneCell']
   have hEn:(Tryz.prog.info? 37).map (·.size)=some E.toArray.size:=by rw[hEE];exact sS
   have hth':(w4.alloc (.cells #[.int .i64 a0,.int .i64 a1,.int .i64 a2,.int .i64 a3] 419)).there (w.heap.size+1) (4+k*4) E.toArray.size:=by rw[hEE];exact hth
   replace hth:=hth';clear hua hg5 hb4;simp only[ints,qzm,qzo];go_wp2_with (first
    |(refine zk rfl _ _ _ rfl _ _ [Value.int .i64 a0,.int .i64 a1,.int .i64 a2,.int .i64 a3] rfl rfl rfl Xr (by simp[Value.oneCell']) ?_)
    |(refine qZi rfl _ _ _ rfl (w.heap.size+1) (4+k*4) E.toArray rfl (by rw[hEE];rfl) hth hEn hone ?_)
    |fail)
   obtain⟨hua,hg5⟩:=HU.o;have hgs:=Yy hlt hg5;rw[hE.out]at hgs;have hu5:=(HG.o.2.trans (hua.mono (S':=fun j=>j=w.heap.size+1) (fun _ _ h=>h.elim))).trans (zp (w4.alloc (.cells #[.int .i64 a0,.int .i64 a1,.int .i64 a2,.int .i64 a3] 419)) (w.heap.size+1) (4+k*4) [Value.int .i64 a0,.int .i64 a1,.bool (a2==1),.int .i64 a3]);generalize (w4.alloc (.cells #[.int .i64 a0,.int .i64 a1,.int .i64 a2,.int .i64 a3] 419)).setCells (w.heap.size+1) (4+k*4) [Value.int .i64 a0,.int .i64 a1,.bool (a2==1),.int .i64 a3]=w6 at*;have HX:=Y2 hgs hu5;clear hua hg5 hgs hu5 hth hth' hone hEn hEE HU;go_roundg (gk-1)
   case measure=>omega
   case rel=>exact⟨k+1,by omega,by go_num,HX.o.1,HX.o.2⟩
  .obtain rfl:k=4:=by omega
   have k1:¬(((4:Nat):Int)<4):=by decide
   have h20:=uj xs;have h1:=uk xs;have hsz:(Tryz.prog.info? 280).map (·.size)=some (dsP xs).length:=by rw[h20];exact wB
   have hsz2:(Tryz.prog.info? 280).map (·.size)=some (dsP xs).toArray.size:=by rw[qXm,h20];exact wB
   have r5:wr.rangeAt (w.heap.size+1) 0 (dsP xs):=zg hg;have g0:=(hu.block w.heap.size (zd g13) (by omega)).trans g13;have hZl:Z.toArray.size=20:=HZ.o;have hth:wr.there w.heap.size 0 (dsP xs).toArray.size:=fun j hj=>by
    rw[za g0,zf g0,qxe (by rw[qXm,h20]at hj;omega)];exact⟨rfl,rfl⟩
   have hth2:wr.there w.heap.size 0 (dsP xs).length:=by rw[qXm]at hth;exact hth
   have hU:=hu3.trans hu;obtain⟨D,hD⟩:=qqe (dsP xs);rw[<-hD]at h20 h1 hsz hsz2 r5 hth hth2;have HD:=qqh hD;clear hD;have HF:=Y3 hth2 hsz hU;clear hx3 g3 g13 hu3 hxl hcl hcm hg hu hth2 hU h20 g0;go_wp2_with (first
    |(refine qZg rfl _ _ rfl _ _ rfl _ _ r5 Tryz.underlying280 rfl hsz ?_)
    |(refine qZi rfl _ _ _ rfl w.heap.size 0 D.toArray rfl rfl hth hsz2 (qYu h1) ?_)
    |fail)
   exact qYw (zM rfl _ _ w.heap.size 0 D _ rfl (qYr _ _ _ _ HF.o.1) Tryz.underlying280 rfl HF.o.2.1) rfl
    ⟨by rw[HD.o],zj (qxl _ w) ((HF.o.2.2.mono (S':=fun j=>j=w.heap.size+1\/j=w.heap.size) (fun _ _ h=> .inl h)).trans ((zp wr w.heap.size 0 D).mono (fun _ _ h=> .inr h))) (qXv _) (fun k e=>by omega)⟩
def tf(ns:List Nat)(i:Nat):Ent:=⟨ns.getD (4+4*i) 0,ns.getD (4+4*i+1) 0,ns.getD (4+4*i+2) 0==1,ns.getD (4+4*i+3) 0⟩
theorem zR(ns:List Nat)(i:Nat):(natsI ns).getD i 0=(ns.getD i 0:Nat):=by
 simp only[natsI,qyh,qyq];cases ns[i]?<;>rfl
theorem xt(xs:List Int)(i j:Nat)(hj:j<4):(rowI xs i).getD j 0=xs.getD (4+4*i+j) 0:=by
 simp only[rowI,qyh,qyu,if_pos hj,qym]
theorem Qn(ns:List Nat)(i:Nat):entX (natsI ns) i=entC (tf ns i):=by
 unfold entX entC tf;rw[xt _ _ _ (by omega),xt _ _ _ (by omega),xt _ _ _ (by omega),xt _ _ _ (by omega),zR,zR,zR,zR];have:((ns.getD (4+4*i+2) 0:Nat):Int)==1↔ns.getD (4+4*i+2) 0==1:=by simp;omega
 rw[Bool.eq_iff_iff.2 this];rfl
def pgSeq(b:Bk):Nat:=(numsP b).getD 0 0
def pgNo(b:Bk):Nat:=(numsP b).getD 1 0
def pgOf(b:Bk):Nat:=(numsP b).getD 2 0
def pgMany(b:Bk):Nat:=(numsP b).getD 3 0
def pgEnts(b:Bk):List Ent:=(List.range (pgMany b)).map (tf (numsP b))
def goesP(seq of no:Nat)(b:Bk):Bool:=
 if of<=no then b==zB else okP b&&(pgSeq b==seq&&(pgNo b==no&&(pgOf b==of&&(if no+1=of then !(pgMany b==0&&decide (0<no))else pgMany b==4))))
def readSeq(l:List Bk):Nat:=pgSeq (l.getD 0 zB)
def readOf(l:List Bk):Nat:=pgOf (l.getD 0 zB)
def readOk(l:List Bk):Bool:=okP (l.getD 0 zB)&&(decide (readOf l<=l.length)&&(List.range l.length).all fun i=>goesP (readSeq l) (readOf l) i (l.getD i zB))
def entsTo(l:List Bk)(k:Nat):List Ent:=(List.range k).flatMap fun i=>pgEnts (l.getD i zB)
def readEs(l:List Bk):List Ent:=entsTo l (readOf l)
theorem WQ{b:Bk}(h:okP b=true):mayP (natsI (numsP b))=true:=by
 unfold okP okGet at h;simp only[qxo]at h;exact h.2.2.2
theorem yB{b:Bk}(h:okP b=true):pgSeq b<=1099511627776/\pgNo b<=255/\1<=pgOf b/\pgOf b<=256/\pgMany b<=4:=by
 have hm:=WQ h;unfold mayP at hm;rw[qxo,qxo]at hm;have hl:(natsI (numsP b)).length=20:=by simp[natsI,numsP,zC,szP]
 have hw:=hm.1.1;have w0:=zZ hw (i:=0) (by decide) (by omega);have w1:=zZ hw (i:=1) (by decide) (by omega);have w2:=zZ hw (i:=2) (by decide) (by omega);have w3:=zZ hw (i:=3) (by decide) (by omega);have e:∀i (hi:i<(natsI (numsP b)).length),(natsI (numsP b))[i]=((numsP b).getD i 0:Nat):=fun i hi=>by
  rw[<-zR,qyh,qyn hi];rfl
 rw[e]at w0 w1 w2 w3;simp only[bndP,qyx,qyw]at w0 w1 w2 w3;unfold pgSeq pgNo pgOf pgMany;omega
theorem Yz{w:World}{p:Nat}{b:Bk}{T:TypeId}(h:w.heap[p]?=some (.cells (dsP (natsI (numsP b))).toArray T (0,0)))(hok:okP b=true):
  w.cell? ⟨p,0,none⟩=some (.int .i64 (pgSeq b:Nat))/\w.cell? ⟨p,1,none⟩=some (.int .i64 (pgNo b:Nat))/\w.cell? ⟨p,2,none⟩=some (.int .i64 (pgOf b:Nat))/\w.cell? ⟨p,3,none⟩=some (.int .i64 (pgMany b:Nat))/\w.rangeAt p 4 ((pgEnts b).flatMap entC):=by
 refine⟨?_,?_,?_,?_,?_⟩
 .rw [za h 0];show some (Value.int .i64 ((natsI (numsP b)).getD 0 0))=_;rw[zR];rfl
 .rw [za h 1];show some (Value.int .i64 ((natsI (numsP b)).getD 1 0))=_;rw[zR];rfl
 .rw [za h 2];show some (Value.int .i64 ((natsI (numsP b)).getD 2 0))=_;rw[zR];rfl
 .rw [za h 3];show some (Value.int .i64 ((natsI (numsP b)).getD 3 0))=_;rw[zR];rfl
 .obtain ⟨-,-,-,-,hm⟩:=yB hok;intro j u hj;have hlen:=(qyp.1 hj).1;rw[za h];have e:(dsP (natsI (numsP b))).toArray[4+j]?=((List.range 4).flatMap fun i=>entC (tf (numsP b) i))[j]?:=by
   rw[qyv];unfold dsP dsPk;rw[qyj (by simp)];simp only[qze,qzh];rw[show 4+j-(0+1+1+1+1)=j by omega]
   congr 1
   rw[List.flatMap_def,List.flatMap_def]
   congr 1
   apply List.map_congr_left;intro i hi;rw[if_pos (qzx.1 hi),Qn]
  rw[e,<-hj];unfold pgEnts;rw[List.flatMap_map];rw[show List.range 4=List.range (pgMany b)++(List.range (4-pgMany b)).map (pgMany b+·) by rw[<-List.range_add,Nat.add_sub_cancel' hm],qyf,qyi];have:((List.range (pgMany b)).flatMap fun i=>entC (tf (numsP b) i))=((pgEnts b).flatMap entC):=by unfold pgEnts;rw[List.flatMap_map]
  rw[this];exact hlen
theorem xC{seq:Nat}{E:List Ent}(hs:seq<=1099511627776)(hE:∀x∈E,qk x)(hn:needN E.length<=256){k:Nat}(hk:k<needN E.length):
  let b:=sectP (pageXs seq (needN E.length) E k)
  okP b=true/\pgSeq b=seq/\pgNo b=k/\pgOf b=needN E.length/\pgMany b=(partE E k).length/\pgEnts b=partE E k:=by
 intro b;obtain⟨h1,h2⟩:=Uk (yV seq (needN E.length) E k) (uE hs hE hn hk);have h3:numsP b=pgN seq k (needN E.length) (partE E k).length (padE (partE E k)):=by
  have:natsI (numsP b)=natsI (pgN seq k (needN E.length) (partE E k).length (padE (partE E k))):=h2;unfold natsI at this;exact(List.map_inj_right (f:=fun(n:Nat)=>(n:Int)) (fun x y h=>Int.ofNat_inj.1 h)).1 this
 have hm:pgMany b=(partE E k).length:=by unfold pgMany;rw[h3];rfl
 refine⟨h1,?_,?_,?_,hm,?_⟩
 .unfold pgSeq;rw[h3];rfl
 .unfold pgNo;rw[h3];rfl
 .unfold pgOf;rw[h3];rfl
 .unfold pgEnts;rw[hm,h3];have hp:=tD E k;have hrow:∀i,i<(partE E k).length->tf (pgN seq k (needN E.length) (partE E k).length (padE (partE E k))) i=(partE E k).getD i Ent.none:=by
   intro i hi;have hr:=rJ seq k (needN E.length) (partE E k).length (padE (partE E k)) (i:=i) (by rw[tG hp];omega);have hg:(padE (partE E k)).getD i Ent.none=(partE E k).getD i Ent.none:=by
    simp[padE,List.getD_eq_getElem?_getD,List.getElem?_append_left hi]
   rw[hg]at hr;generalize (partE E k).getD i Ent.none=x at*;generalize pgN seq k (needN E.length) (partE E k).length (padE (partE E k))=ns at*;have hq:∀j,j<4->ns.getD (4+4*i+j) 0=(entN x).getD j 0:=fun j hj=>by
    have:=congrArg (fun l=>l.getD j 0) hr;simp only[xt _ _ _ hj,zR]at this;exact Int.ofNat_inj.1 this
   have q0:=hq 0 (by omega);have q1:=hq 1 (by omega);have q2:=hq 2 (by omega);have q3:=hq 3 (by omega);unfold tf;rw[qXs]at q0;rw[q0,q1,q2,q3];obtain⟨b,s,d,m⟩:=x;cases d<;>rfl
  apply qye
  .simp
  .intro i h1 h2;rw[qyy,List.getElem_range,hrow i h2,qyh,qyn h2];rfl
theorem YA(E:List Ent):∀k,(List.range k).flatMap (partE E)=E.take (4*k)
 |0=>by simp
 |k+1=>by
  rw[qXh,qyf,YA E k];simp only[qyg,List.flatMap_nil,qxy,partE];rw[show 4*(k+1)=4*k+4 by omega,List.take_add]
theorem Qo(E:List Ent)(k:Nat):(partE E k).length=min 4 (E.length-4*k):=by simp[partE]
theorem vC{seq:Nat}{E:List Ent}(hs:seq<=1099511627776)(hE:∀x∈E,qk x)(hn:needN E.length<=256){l:List Bk}(hm:needN E.length<=l.length)(hl:∀i<l.length,l.getD i zB=(pagesB seq E).getD i zB):
  readOk l=true/\readSeq l=seq/\readEs l=E:=by
 have hnp:1<=needN E.length:=by unfold needN;omega
 have hpg:∀i,i<needN E.length->l.getD i zB=sectP (pageXs seq (needN E.length) E i):=fun i hi=>by
  rw[hl i (by omega),pagesB,zV,qyh,qyq,qyr hi];rfl
 have h0:=xC hs hE hn (k:=0) hnp;dsimp only at h0;rw[<-hpg 0 hnp]at h0;obtain⟨a1,a2,a3,a4,a5,a6⟩:=h0;have hof:readOf l=needN E.length:=a4;refine⟨?_,a2,?_⟩
 .unfold readOk;rw[a1,hof,qYy hm,qxp,qxp,qxw];intro i hi;have hi:=qzx.1 hi;unfold goesP;by_cases h:needN E.length<=i
  .rw [if_pos h,hl i hi,qyh,qyo (by rw[pagesB,xg];exact h)];simp
  .rw [if_neg h];obtain⟨b1,b2,b3,b4,b5,b6⟩:=xC hs hE hn (k:=i) (by omega);rw[<-hpg i (by omega)]at b1 b2 b3 b4 b5 b6;rw[b1,b2,b3,b4,b5,show readSeq l=seq from a2,Qo];unfold needN at h⊢;split
   .next he=>
    simp only[qxp,beq_self_eq_true,Bool.not_eq_true',Bool.and_eq_false_iff,qYv,qYx];by_cases hz:i=0
    .right;omega
    .left;omega
   .next he=>
    simp only[qxp,beq_self_eq_true,beq_iff_eq];omega
 .unfold readEs entsTo;rw[hof];have:(List.range (needN E.length)).flatMap (fun i=>pgEnts (l.getD i zB))=(List.range (needN E.length)).flatMap (partE E):=by
   rw[List.flatMap_def,List.flatMap_def]
   congr 1
   apply List.map_congr_left;intro i hi;obtain⟨-,-,-,-,-,b6⟩:=xC hs hE hn (k:=i) (qzx.1 hi);rw[<-hpg i (qzx.1 hi)]at b6;exact b6
  rw[this,YA,qXp (by unfold needN;omega)]
theorem qG:okP zB=false:=by kernel_rfl
theorem Um{H:Nat->List Ent}{top:Nat}(htop:top<=1099511627776)(hE:∀s≤top,∀x∈H s,qk x)(hn:∀s≤top,needN (H s).length<=256){l:List Bk}
  (hl:∀i<l.length,okP (l.getD i zB)=false\/∃s≤top,i<needN (H s).length/\l.getD i zB=sectP (pageXs s (needN (H s).length) (H s) i)) (hok:readOk l=true):
  ∃s≤top,readSeq l=s/\readEs l=H s/\needN (H s).length<=l.length/\∀i<l.length,l.getD i zB=(pagesB s (H s)).getD i zB:=by
 have hok':=hok;unfold readOk at hok;rw[qxo,qxo,qxw]at hok;obtain⟨h0,hle,hall⟩:=hok;have hle:=of_decide_eq_true hle;have hpos:0<l.length:=by
  rcases qXt l.length with h|h
  .rw [List.length_eq_zero_iff.1 h]at h0;rw[show([]:List Bk).getD 0 zB=zB from rfl,qG]at h0;cases h0
  .exact h
 rcases hl 0 hpos with h|⟨s,hs,hk,e⟩
 .rw [h]at h0;cases h0
 obtain⟨a1,a2,a3,a4,a5,a6⟩:=xC (qXx hs htop) (hE s hs) (hn s hs) hk;rw[<-e]at a1 a2 a3 a4 a5 a6;have hof:readOf l=needN (H s).length:=a4;have hsq:readSeq l=s:=a2;have hget:∀i<l.length,l.getD i zB=(pagesB s (H s)).getD i zB:=by
  intro i hi;have hg:=hall i (qzx.2 hi);unfold goesP at hg;rw[hof,hsq]at hg;split at hg
  .next hge=>
   rw[beq_iff_eq.1 hg,qyh,qyo (by rw[pagesB,xg];exact hge)];rfl
  .next hge=>
   simp only[qxo,beq_iff_eq]at hg;obtain⟨g1,g2,g3,g4,-⟩:=hg;rcases hl i hi with h|⟨t,ht,hkt,et⟩
   .rw [h]at g1;cases g1
   obtain⟨b1,b2,-⟩:=xC (qXx ht htop) (hE t ht) (hn t ht) hkt;rw[<-et]at b2;have:t=s:=by rw[<-b2,g2]
   subst this;rw[et,pagesB,zV,qyh,qyq,qyr hkt];rfl
 refine⟨s,hs,hsq,?_,by rw[<-hof];exact hle,hget⟩;exact(vC (qXx hs htop) (hE s hs) (hn s hs) (by rw[<-hof];exact hle) hget).2.2
end Go.Proofs.YtfhfbpmlnjdfoaaGreatDoor
