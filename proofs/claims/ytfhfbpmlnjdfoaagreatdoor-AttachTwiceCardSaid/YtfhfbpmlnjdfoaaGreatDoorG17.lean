/- The intent tha -/
import Derived.Test.YtfhfbpmlnjdfoaaGreatDoorG16
set_option maxRecDepth 100000
set_option maxHeartbeats 2000000
namespace Go.Proofs.YtfhfbpmlnjdfoaaGreatDoor
open Go Go.RowKit Tryz
theorem xw{x:Bk}(hx:x.length=64){p s:Nat}(h:p+s<=60):((sealB x).drop p).take s=(x.drop p).take s:=by
 apply List.ext_getElem?
 intro i;by_cases hi:i<s
 .rw [List.getElem?_take_of_lt hi,List.getElem?_take_of_lt hi,qym,qym];unfold sealB;rw[qyi (by simp;omega),List.getElem?_take_of_lt (by omega)]
 .rw [List.getElem?_take_eq_none (by omega),List.getElem?_take_eq_none (by omega)]
theorem vG{pre mid post:List UInt8}:((padB (pre++mid++post)).drop pre.length).take mid.length=mid:=by
 unfold padB;rw[qxx,qxx,List.drop_left' rfl,List.take_left' rfl]
theorem YU(l:List (Nat×Nat)):∀(pre:List UInt8),pre.length+sizes l<=60->(∀p∈l,p.1<256^p.2)->numsAt (sealB (padB (pre++encB l))) pre.length (l.map (·.2))=l.map (·.1):=by
 induction l with
 |nil=>intro pre _ _;rfl
 |cons p l ih=>
  intro pre hp hf;have hsz:sizes (p::l)=p.2+sizes l:=by simp[sizes]
  have he:encB (p::l)=lowB p.1 p.2++encB l:=by simp[encB]
  simp only[qzm,numsAt,List.cons.injEq];constructor
  .rw [xw (wI (by rw[qzd,ug];omega)) (by omega),he,<-qxx];have:=vG (pre:=pre) (mid:=lowB p.1 p.2) (post:=encB l);rw[yj]at this;rw[this];exact Yv _ _ (hf p (by simp))
  .have:=ih (pre++lowB p.1 p.2) (by rw[qzd,yj];omega) (fun q hq=>hf q (by simp[hq]));rw[qzd,yj,qxx]at this;rw[he];exact this
theorem Jy{k:Nat}(hk:k<256){l:List (Nat×Nat)}(hl:Zo l)(mb:Bool):okGet (sectB k l) k (l.map (·.2)) mb=mb/\numsAt (sectB k l) 1 (l.map (·.2))=l.map (·.1):=by
 have hpl:=uh (k:=k) hl.2;have hsz:(l.map (·.2)).sum=sizes l:=rfl;have hbl:(lowB k 1++encB l).length=1+sizes l:=by rw[qzd,yj,ug]
 have h1:sealB (sectB k l)=sectB k l:=XR hpl;have h2:numB ((sectB k l).take 1)=k:=by
  have:=xw hpl (p:=0) (s:=1) (by omega);rw[qyc,qyc]at this;have h3:=vG (pre:=[]) (mid:=lowB k 1) (post:=encB l);rw[yj,qzz,qzh,qyc]at h3;unfold sectB;rw[this,h3];exact Yv _ _ (by omega)
 have h3:endB (sectB k l) (1+sizes l)=true:=by
  unfold endB sectB;rw[xw hpl (by have:=hl.2;omega)];unfold padB;rw[<-hbl,List.drop_left' rfl,qxw];intro x hx;have:=List.mem_of_mem_take hx;rw[List.mem_replicate]at this;simpa using this.2
 refine⟨?_,?_⟩
 .unfold okGet;rw[hsz,h1,h2,h3];simp
 .have:=YU l (lowB k 1) (by rw[yj];have:=hl.2;omega) (fun p hp=>(hl.1 p hp).1);rw[yj]at this;exact this
theorem uW{k:Nat}(hk:k<256){sz:List Nat}{xs:List Int}(h:xs.length=sz.length)(h0:∀x∈xs,0<=x)(hf:Zo (numL sz xs))(mb:Bool):
  okGet (sectB k (numL sz xs)) k sz mb=mb/\natsI (numsAt (sectB k (numL sz xs)) 1 sz)=xs:=by
 have h2:(numL sz xs).map (·.2)=sz:=by unfold numL;rw[List.map_snd_zip (by simp[h])]
 obtain⟨s1,s2⟩:=Jy hk hf mb;rw[h2]at s1 s2;refine⟨s1,?_⟩;rw[s2];have:=uJ h h0;unfold numsL at this;unfold natsI;rw[qzn];exact this
def numsP(b:Bk):List Nat:=numsAt b 1 Vw
def okP(b:Bk):Bool:=okGet b 3 Vw (mayP (natsI (numsP b)))
def cdP(b:Bk):Int:=xe b 3 Vw (mayP (natsI (numsP b)))
theorem UQ{xs:List Int}(hx:xs.length=20)(h:mayP xs=true):okP (sectP xs)=true/\natsI (numsP (sectP xs))=xs:=by
 obtain⟨h0,hf⟩:=uN hx h;obtain⟨s1,s2⟩:=uW (k:=3) (by decide) (sz:=Vw) (by rw[hx];rfl) h0 hf (mayP (natsI (numsP (sectP xs))));have h3:natsI (numsP (sectP xs))=xs:=s2;refine⟨?_,h3⟩;unfold okP;rw[show okGet (sectP xs) 3 Vw (mayP (natsI (numsP (sectP xs))))=mayP (natsI (numsP (sectP xs)))from s1,h3];exact h
def entX(xs:List Int)(i:Nat):List Value:=[.int .i64 ((rowI xs i).getD 0 0),.int .i64 ((rowI xs i).getD 1 0),.bool ((rowI xs i).getD 2 0==1),.int .i64 ((rowI xs i).getD 3 0)]
def QN:List Value:=[.int .i64 0,.int .i64 0,.bool false,.int .i64 0]
def dsPk(xs:List Int)(k:Nat):List Value:=[.int .i64 (xs.getD 0 0),.int .i64 (xs.getD 1 0),.int .i64 (xs.getD 2 0),.int .i64 (xs.getD 3 0)]++(List.range 4).flatMap fun i=>if i<k then entX xs i else QN
def dsP(xs:List Int):List Value:=dsPk xs 4
theorem xU(xs:List Int)(k:Nat):(dsPk xs k).length=20:=by
 have e:∀i,(if i<k then entX xs i else QN).length=4:=fun i=>by split<;>rfl
 simp[dsPk,List.range_succ,e]
theorem YV(xs:List Int)(k:Nat):∀v∈dsPk xs k,v.oneCell'=true:=by
 intro v hv;rcases qzq.1 hv with hv|hv
 .simp only[qzr,qXd,qZb]at hv;rcases hv with rfl|rfl|rfl|rfl<;>rfl
 .obtain ⟨i,-,hi⟩:=qzu.1 hv;split at hi<;>(simp only[entX,QN,qzr,qXd,qZb]at hi;rcases hi with rfl|rfl|rfl|rfl<;>rfl)
theorem vq(xs:List Int):(dsP xs).length=20:=xU xs 4
theorem vr(xs:List Int):∀v∈dsP xs,v.oneCell'=true:=YV xs 4
theorem UR(xs:List Int){k:Nat}(hk:k<4):(dsPk xs k).take (4+k*4)++entX xs k++(dsPk xs k).drop (4+k*4+4)=dsPk xs (k+1):=by
 rcases(show k=0\/k=1\/k=2\/k=3 by omega)with rfl|rfl|rfl|rfl<;>rfl
theorem VC(w:World):(Instr.alloc 280 true (.tuple #[])).run prog w=.ok (.pointer (some ⟨w.heap.size,0,none⟩)) (w.alloc (.cells (dsPk [] 0).toArray 280)):=by
 kernel_rfl
theorem QO(x0 x1 x2 x3:Int)(W:World):(Instr.build 280 #[(0,.int .i64 x0),(1,.int .i64 x1),(2,.int .i64 x2),(3,.int .i64 x3)]).run prog W=.ok (.agg ([Value.int .i64 x0,.int .i64 x1,.int .i64 x2,.int .i64 x3]++(List.range 4).flatMap fun _=>QN).toArray) W:=by
 kernel_rfl
theorem vH{cs' cs:Array Value}{vs:List Value}{o:Nat}(_hs:cs'.size=cs.size)(hl:o+vs.length<=cs.size)(h:∀j,cs'[j]?=if o<=j/\j<o+vs.length/\j<cs.size then vs[j-o]? else cs[j]?):cs'=(cs.toList.take o++vs++cs.toList.drop (o+vs.length)).toArray:=by
 apply qxd
 intro j;rw[h j];simp only[qyv,qxx,List.getElem?_append,qzk,qyu,qym,qxh,Nat.min_eq_left (show o<=cs.size by omega),Array.getElem?_toList];by_cases h1:j<o
 .rw [if_neg (by omega),if_pos h1,if_pos h1]
 .by_cases h2:j<o+vs.length
  .rw [if_pos (by omega),if_neg h1,if_pos (by omega)]
  .rw [if_neg (by omega),if_neg h1,if_neg (by omega)]
   congr 1
   omega
theorem YW{xs:List Int}{k:Nat}{w:World}{b:Nat}{T:TypeId}(hk:k<4)(h:w.heap[b]?=some (.cells (dsPk xs k).toArray T (0,0))):(w.setCells b (4+k*4) (entX xs k)).heap[b]?=some (.cells (dsPk xs (k+1)).toArray T (0,0)):=by
 obtain⟨cs',h1,h2,h3⟩:=zA (entX xs k) (4+k*4) w b (dsPk xs k).toArray T (0,0) h;rw[h1,vH h2 (by rw[qXm,xU];show 4+k*4+4<=20;omega) h3,<-UR xs hk];rfl
theorem Aq{w:World}{gl ol cl:Nat}(xs:List Int)(hxl:xs.length=20)(hx:w.rangeAt gl ol (ints xs))(hcl:20<=cl)(hcm:cl<=maxLen):
  Calls prog 310 (#[.slice (some ⟨gl,ol,none⟩) 20 cl]++ #[]) w fun e w'=>e=.returned (.agg (dsP xs).toArray)/\Below w.heap.size w w':=by
 have c0:=yx hx 0 (by omega);have c1:=yx hx 1 (by omega);have c2:=yx hx 2 (by omega);have c3:=yx hx 3 (by omega);rw[qXs]at c0;have hlt:gl<w.heap.size:=qYn w _ c0;have h00:dsPk xs 0=[.int .i64 (xs.getD 0 0),.int .i64 (xs.getD 1 0),.int .i64 (xs.getD 2 0),.int .i64 (xs.getD 3 0)]++(List.range 4).flatMap fun _=>QN:=rfl;have hbl:=QO (xs.getD 0 0) (xs.getD 1 0) (xs.getD 2 0) (xs.getD 3 0);rw[<-h00]at hbl;have H0:=qqh h00;generalize xs.getD 0 0=x0 at*;generalize xs.getD 1 0=x1 at*;generalize xs.getD 2 0=x2 at*;generalize xs.getD 3 0=x3 at*;obtain⟨Z,hZ⟩:=qqe (dsPk [] 0);have hal:=VC;simp only[<-hZ]at hal;have hZl:Z.toArray.size=20:=by rw[hZ,qXm,xU]
 obtain⟨L,hL⟩:=qqe (dsPk xs 0);rw[<-hL]at hbl;have hLl:L.toArray.size=20:=by rw[hL,qXm,xU]
 have hLi:(prog.info? 280).map (·.size)=some L.toArray.size:=by rw[hLl];exact wK
 have hL1:∀v∈L,v.oneCell'=true:=by rw[hL];exact YV _ _
 obtain⟨w1,hw1⟩:=qqe (w.alloc (.cells Z.toArray 280));have hu1:=qqu hw1;have g1:=qqg hw1;have z1:w1.heap.size=w.heap.size+1:=by rw[hw1];simp
 have d0:=hu1.ja c0 (fun h=>h);have d1:=hu1.ja c1 (fun h=>h);have d2:=hu1.ja c2 (fun h=>h);have d3:=hu1.ja c3 (fun h=>h);have HW1:=qqh hw1;have HX:=Y8 hx hxl hcl hcm hu1 g1 z1 hL;clear hx hxl hcl hcm hu1 g1 z1 hL hw1 c0 c1 c2 c3 hZ h00 H0;go_enter func310,ntmps310
 go_wp2_with (first
  |(refine zZ rfl _ rfl _ hal ?_)
  |fail)
 rw[<-HW1.o];refine qZj (S:=fun W=>W.cell? ⟨gl,ol,none⟩=some (.int .i64 x0)/\W.cell? ⟨gl,ol+1,none⟩=some (.int .i64 x1)/\W.cell? ⟨gl,ol+2,none⟩=some (.int .i64 x2)/\W.cell? ⟨gl,ol+3,none⟩=some (.int .i64 x3)) (by kernel_rfl) (by(simp only[qYo]);exact⟨d0,d1,d2,d3⟩) (fun hHeld=>?_);refine Wl.i [0,1,2,3,4,5,6,7,8,9,10,11] ?_;iterate 12 refine Wl.t hHeld ?_
 refine Wl.o ?_;refine qZf (i:=12) (v:=.agg L.toArray) rfl (by kernel_rfl) (by kernel_rfl) (by kernel_rfl) (fun _ _ _ h=>h) (Or.inl ⟨by rfl,fun W _=>?_⟩) hHeld ?_
 .simp only[qzc,qyw,qyx,execOp,qYm,qzp,qzm,qzo]
  change ((Instr.build 280 #[(0,.int .i64 x0),(1,.int .i64 x1),(2,.int .i64 x2),(3,.int .i64 x3)]).run prog W).andThen _=_
  rw[hbl];rfl
 simp only[qzc,qyw,qyx,Act.put,qXi,qXl,qXk];refine Wl.r 13 (fun K hK=>?_);rw[if_pos (by rfl)];unfold Oper.wp;simp only[qzc,qyw,qyx,execOp,qYm,hal,qYl];have hZg:=zc w1.drew (.cells Z.toArray 280) rfl;have hua:=(uur (fun _=>False) w1.drew).alloc (.cells Z.toArray 280);obtain⟨w2,hw2⟩:=qqe (w1.drew.alloc (.cells Z.toArray 280));rw[<-hw2]at hZg hua⊢;simp only[World.size_drew]at hZg;have e0:=hua.ja hHeld.1 (fun h=>h);have e1:=hua.ja hHeld.2.1 (fun h=>h);have e2:=hua.ja hHeld.2.2.1 (fun h=>h);have e3:=hua.ja hHeld.2.2.2 (fun h=>h);refine hK.o _ _ ⟨e0,e1,e2,e3⟩ (fun hH2=>?_);clear hK K;have hth:w2.there w1.heap.size 0 L.toArray.size:=fun j hj=>by
  rw[za hZg,qYe,qxe (by rw[hZl,<-hLl];exact hj)];exact⟨rfl,zg hZg _⟩
 refine Wl.r 14 (fun K hK=>?_);rw[if_pos (by rfl)];refine qZk _ _ _ rfl _ _ L.toArray rfl rfl hth hLi (qYu hL1) ?_;simp only[Act.put,qXi];have hus:=zq w2 w1.heap.size 0 L;have hgl1:gl≠w1.heap.size:=by have:=HX.o.2.2.2.2.2.2.1;omega
 have g3:(w2.setCells w1.heap.size 0 L).heap[w1.heap.size]?=some (.cells L.toArray 280 (0,0)):=by
  obtain⟨cs',q1,q2,q3⟩:=zA L 0 w2 w1.heap.size Z.toArray 280 (0,0) hZg;rw[q1,vH q2 (by rw[hZl,<-hLl,qXm];omega) q3];have:L.length=Z.toArray.size:=by rw[hZl,<-hLl,qXm]
  rw[qYe,List.take_zero,qzz,List.drop_of_length_le (by rw[qxh];omega),qxy]
 obtain⟨hx,hxl,hcl,hcm,hu1,g1,z1,hL⟩:=HX.o;have hu12:Upd (fun _=>False) w1 w2:=((uur _ w1).drew).trans hua;have g13:=(hus.block w.heap.size (by have:=zf g1;have:=hu12.size;omega) (by omega)).trans (hu12.jc g1);have hu3:Upd (fun j=>j=w1.heap.size) w (w2.setCells w1.heap.size 0 L):=((hu1.trans hu12).mono (fun _ _ h=>h.elim)).trans hus;refine hK.o _ _ ⟨hus.ja hH2.1 hgl1,hus.ja hH2.2.1 hgl1,hus.ja hH2.2.2.1 hgl1,hus.ja hH2.2.2.2 hgl1⟩ (fun _=>?_);clear hK K;refine Wl.d ?_;rw[z1]at g3 hus hgl1 hu3 g13;simp only[World.size_drew,z1];generalize w2.setCells (w.heap.size+1) 0 L=w3 at*;rw[hL]at g3;have hxd:=((hu1.trans hu12).range hx (fun h=>h))
 have hx3:=hus.range hxd hgl1;have HZ:=qqh hZl;have H3:=Y8 hx3 g3 g13 hu3 hxl hcl hcm hgl1;clear hx hxl hcl hcm hu1 g1 hL hus hZg hua e0 e1 e2 e3 hth hH2 hHeld hu12 g13 hu3 hxd hx3 g3 d0 d1 d2 d3 hw2 hal hbl hLl hLi hL1 hZl HX HW1 hgl1 z1;go_wp2_with fail
 go_loopg[19] 4 (fun g s19 wr=>∃k:Nat,k+g=4/\s19=.int .i64 (k:Int)/\wr.heap[w.heap.size+1]?=some (.cells (dsPk xs k).toArray 280 (0,0))/\Upd (fun j=>j=w.heap.size+1) w3 wr)
 case atStart=>exact⟨0,by omega,rfl,H3.o.2.1,uur _ _⟩
 case round=>
  obtain⟨k,hk,rfl,hg,hu⟩:=hrel;obtain⟨hx3,g3,g13,hu3,hxl,hcl,hcm,hgl1⟩:=H3.o;by_cases hlt:k<4
  .have k1:(k:Int)<4:=by omega
   have k0:(0:Int)<=(k:Int):=by omega
   have HR:=qqh (Vu (hu.range hx3 hgl1) hxl hcl hcm k hlt);have hrl:=xS hxl hlt;obtain⟨a0,a1,a2,a3,hrow⟩:∃a0 a1 a2 a3,rowI xs k=[a0,a1,a2,a3]:=by
    match rowI xs k,hrl with
    |[a0,a1,a2,a3],_=>exact⟨_,_,_,_,rfl⟩
   rw[hrow]at HR;have hE:Hid (entX xs k=[.int .i64 a0,.int .i64 a1,.bool (a2==1),.int .i64 a3]):=by show _=_;unfold entX;rw[hrow];rfl
   have HG:=Y2 hg hu;clear hx3 g3 g13 hu3 hxl hcl hcm hgl1 hg hu hrl hrow;go_wp2_with fail
   refine HR.o.mono ?_;rintro e w4 ⟨rfl,hb4⟩;have hua:Upd (fun _=>False) wr (w4.alloc (.cells #[.int .i64 a0,.int .i64 a1,.int .i64 a2,.int .i64 a3] 419)):=(uuo hb4).alloc _;have hg5:=hua.jc HG.o.1;have hth:(w4.alloc (.cells #[.int .i64 a0,.int .i64 a1,.int .i64 a2,.int .i64 a3] 419)).there (w.heap.size+1) (4+k*4) 4:=fun j hj=>by
    rw[za hg5,zg hg5,qxe (by rw[qXm,xU];omega)];exact⟨rfl,rfl⟩
   have HU:=Y2 hua hg5;obtain⟨E,hEE⟩:∃E:List Value,E=[.int .i64 a0,.int .i64 a1,.bool (a2==1),.int .i64 a3]:=⟨_,rfl⟩
   have hone:E.toArray.all (·.oneCell')=true:=by rw[hEE];simp[Value.oneCell']
   have hEn:(prog.info? 37).map (·.size)=some E.toArray.size:=by rw[hEE];exact Zp
   have hth':(w4.alloc (.cells #[.int .i64 a0,.int .i64 a1,.int .i64 a2,.int .i64 a3] 419)).there (w.heap.size+1) (4+k*4) E.toArray.size:=by rw[hEE];exact hth
   replace hth:=hth';clear hua hg5 hb4;simp only[ints,qzm,qzo];go_wp2_with (first
    |(refine zk rfl _ _ _ rfl _ _ [Value.int .i64 a0,.int .i64 a1,.int .i64 a2,.int .i64 a3] rfl rfl rfl XZ (by simp[Value.oneCell']) ?_)
    |(refine qZi rfl _ _ _ rfl (w.heap.size+1) (4+k*4) E.toArray rfl (by rw[hEE];rfl) hth hEn hone ?_)
    |fail)
   obtain⟨hua,hg5⟩:=HU.o;have hgs:=YW hlt hg5;rw[hE.out]at hgs;have hu5:=(HG.o.2.trans (hua.mono (S':=fun j=>j=w.heap.size+1) (fun _ _ h=>h.elim))).trans (zq (w4.alloc (.cells #[.int .i64 a0,.int .i64 a1,.int .i64 a2,.int .i64 a3] 419)) (w.heap.size+1) (4+k*4) [Value.int .i64 a0,.int .i64 a1,.bool (a2==1),.int .i64 a3]);generalize (w4.alloc (.cells #[.int .i64 a0,.int .i64 a1,.int .i64 a2,.int .i64 a3] 419)).setCells (w.heap.size+1) (4+k*4) [Value.int .i64 a0,.int .i64 a1,.bool (a2==1),.int .i64 a3]=w6 at*;have HX:=Y2 hgs hu5;clear hua hg5 hgs hu5 hth hth' hone hEn hEE HU;go_roundg (gk-1)
   case measure=>omega
   case rel=>exact⟨k+1,by omega,by go_num,HX.o.1,HX.o.2⟩
  .obtain rfl:k=4:=by omega
   have k1:¬(((4:Nat):Int)<4):=by decide
   have h20:=vq xs;have h1:=vr xs;have hsz:(prog.info? 280).map (·.size)=some (dsP xs).length:=by rw[h20];exact wK
   have hsz2:(prog.info? 280).map (·.size)=some (dsP xs).toArray.size:=by rw[qXm,h20];exact wK
   have r5:wr.rangeAt (w.heap.size+1) 0 (dsP xs):=zh hg;have g0:=(hu.block w.heap.size (zf g13) (by omega)).trans g13;have hZl:Z.toArray.size=20:=HZ.o;have hth:wr.there w.heap.size 0 (dsP xs).toArray.size:=fun j hj=>by
    rw[za g0,zg g0,qxe (by rw[qXm,h20]at hj;omega)];exact⟨rfl,rfl⟩
   have hth2:wr.there w.heap.size 0 (dsP xs).length:=by rw[qXm]at hth;exact hth
   have hU:=hu3.trans hu;obtain⟨D,hD⟩:=qqe (dsP xs);rw[<-hD]at h20 h1 hsz hsz2 r5 hth hth2;have HD:=qqh hD;clear hD;have HF:=Y3 hth2 hsz hU;clear hx3 g3 g13 hu3 hxl hcl hcm hg hu hth2 hU h20 g0;go_wp2_with (first
    |(refine qZg rfl _ _ rfl _ _ rfl _ _ r5 underlying280 rfl hsz ?_)
    |(refine qZi rfl _ _ _ rfl w.heap.size 0 D.toArray rfl rfl hth hsz2 (qYu h1) ?_)
    |fail)
   exact qYw (zN rfl _ _ w.heap.size 0 D _ rfl (qYr _ _ _ _ HF.o.1) underlying280 rfl HF.o.2.1) rfl
    ⟨by rw[HD.o],zl (qxl _ w) ((HF.o.2.2.mono (S':=fun j=>j=w.heap.size+1\/j=w.heap.size) (fun _ _ h=> .inl h)).trans ((zq wr w.heap.size 0 D).mono (fun _ _ h=> .inr h))) (qXv _) (fun k e=>by omega)⟩
theorem wu{P:Prop}(h:P:=by
 have H:=Y6 hs hN hmay hbuild hss hm;have HC:=Y3 hds hd1 hb;clear hs hN hmay hbuild hss hm hds hd1 hb;have hr:((w.alloc (.cells #[.int .i64 (k:Int),.slice (some ⟨gs,0,none⟩) m cl,tv,.func (.func fm) #[] cm,.func (.func fb) #[] cb] n1a)).alloc (.cells (bkC b).toArray 54)).rangeAt (w.heap.size+1) 0 (bkC b):=zh (zc _ _ (by simp));go_enter q2a,q3a
 go_wp2_with (first
  |(refine qZg rfl _ _ rfl _ _ rfl _ _ (qYp (qYp hr _) _) underlying54 rfl (zw _ HC.o.2.2) ?_)
  |fail)
 show Calls _ _ _ ((((w.alloc (.cells #[.int .i64 (k:Int),.slice (some ⟨gs,0,none⟩) m cl,tv,.func (.func fm) #[] cm,.func (.func fb) #[] cb] n1a)).alloc (.cells (bkC b).toArray 54)).alloc (.cells d4a.toArray n5a)).alloc (.cells d4a.toArray n5a)) _;obtain⟨Z,hZ⟩:∃Z:List Value,Z=d4a:=⟨_,rfl⟩
 rw[<-hZ];have hZs:Hid (Z.toArray.size=n6a):=by show _=_;rw[hZ];rfl
 have hZl:Hid (Z.length=n6a):=by show _=_;rw[hZ];rfl
 have hsZ:Hid ((prog.info? n5a).map (·.size)=some Z.length):=by show _=_;rw[hZ];exact q7a
 have hsA:Hid ((prog.info? n5a).map (·.size)=some Z.toArray.size):=by show _=_;rw[hZ];exact q7a
 have hZ1:Hid ((Z.toArray).all (·.oneCell')=true):=by show _=_;rw[hZ];exact q8a
 have HZ:=qqh hZ;clear hZ;obtain⟨h1,h2,h3,h4,h5,h6⟩:=xP w (.cells #[.int .i64 (k:Int),.slice (some ⟨gs,0,none⟩) m cl,tv,.func (.func fm) #[] cm,.func (.func fb) #[] cb] n1a) (.cells (bkC b).toArray 54) (.cells Z.toArray n5a) (.cells Z.toArray n5a);clear hr;generalize (((w.alloc (.cells #[.int .i64 (k:Int),.slice (some ⟨gs,0,none⟩) m cl,tv,.func (.func fm) #[] cm,.func (.func fb) #[] cb] n1a)).alloc (.cells (bkC b).toArray 54)).alloc (.cells Z.toArray n5a)).alloc (.cells Z.toArray n5a)=w4 at*;refine(XU b HC.o.2.2 (H.o.2.1.keep h6 (fun h=>h))).mono ?_;rintro e w5 ⟨rfl,hb5⟩;have hu5:=qqb hb5;have g1:=(hu5.block _ (zf h1) (fun h=>h)).trans h1;have g2:=(hu5.block _ (zf h2) (fun h=>h)).trans h2;have g3:=(hu5.block _ (zf h3) (fun h=>h)).trans h3;have g4:=(hu5.block _ (zf h4) (fun h=>h)).trans h4;have hz5:=hu5.size;have H5:=Y7 g1 g2 g3 g4 (h6.trans hu5) h5 hz5;clear h1 h2 h3 h4 h5 h6 g1 g2 g3 g4 hu5 hb5 hz5;by_cases hsl:sealB b=b
 .have hsc:sealedC b=0:=if_pos hsl;rw[hsc];clear hsc;have HS:=qqh hsl;clear hsl;obtain⟨g1,g2,g3,g4,u5,z4,z5⟩:=H5.o;have r5:=zh g2;clear g1 g2 g3 g4 u5;go_wp2_with (first
   |(refine qZg rfl _ _ rfl _ _ rfl _ _ r5 underlying54 rfl (zw _ HC.o.2.2) ?_)
   |fail)
  refine(zbc b HC.o.2.2).mono ?_;rintro e w6 ⟨g,rfl,hR6,hge,hb6⟩;have HX:=Y2 hR6 hb6;clear hR6 hb6;go_wp2_with fail
  refine(EB HX.o.1 1 (by decide) (by decide) (by decide)).mono ?_;rintro e w7 ⟨rfl,hR7,hU7⟩;obtain⟨kb,hkb⟩:=qqe (numB ((b.drop 0).take 1));rw[<-hkb];have HK:=qqh hkb;clear hkb;obtain⟨g1,g2,g3,g4,u5,z4,z5⟩:=H5.o;obtain⟨hs,hN,-,-,hss,hm⟩:=H.o;have u57:Upd (fun j=>j=g) w5 w7:=((uuo (S:=fun _=>False) HX.o.2).mono (fun _ _ h=>h.elim)).trans hU7;have u7:Upd (fun j=>j=g) w w7:=(u5.mono (fun _ _ h=>h.elim)).trans u57;have hM7:w.heap.size+4<=w7.heap.size:=by have:=u57.size;omega
  have gM:w.heap.size+4<=g:=by omega
  have m1:w7.cell? ⟨w.heap.size,1,none⟩=some (.slice (some ⟨gs,0,none⟩) m cl):=u57.ja (za g1 1) (by omega);have a1:=(u57.block _ (zf g1) (by omega)).trans g1;have a3:=(u57.block _ (zf g3) (by omega)).trans g3;have a4:=(u57.block _ (zf g4) (by omega)).trans g4;have gslt:gs<w.heap.size\/m=0:=by
   rcases qXt m with h|h
   .exact .inr h
   .exact .inl (qYn w _ (hs 0 _ (sI (by omega))))
  have hs7:∀i (hi:i<ss.length),w7.cell? ⟨gs,i,none⟩=some (.int .i64 (ss[i]:Int)):=fun i hi=>by
   have:=u7.ja (hs i _ (sI hi)) (by omega)
   rwa[qYe]at this
  have hua:Upd (fun _=>False) w7 (w7.alloc (.cells (ints (List.replicate m 0)).toArray 3)):=(uur _ _).alloc _;have hgL:=zc w7 (.cells (ints (List.replicate m 0)).toArray 3) rfl;have hmk:=YB m (by omega) w7;have hR8:=hR7.keep hua (fun h=>h);have hglt:=hR7.lt;have m18:(w7.alloc (.cells (ints (List.replicate m 0)).toArray 3)).cell? ⟨w.heap.size,1,none⟩=some (.slice (some ⟨gs,0,none⟩) m cl):=hua.ja m1 (fun h=>h);have H8:=Y12 hua hgL hR8 a1 a3 a4 hs7 gslt u7 hss hm hN;clear g1 g2 g3 g4 u5 z4 hs hN hss hm u57 u7 a1 a3 a4 gslt hs7 hua hgL hR8 hU7 hR7 r5 z5;go_wp2
  clear hmk m1;generalize hW8:w7.alloc (.cells (ints (List.replicate m 0)).toArray 3)=w8 at*;have HW8:=qqh hW8;clear hW8;generalize hL:w7.heap.size=L at*;have HL:=qqh hL;clear hL;go_loopw[30] (fun s30 wr=>∃i:Nat,i<=m/\s30=.int .i64 i/\yM wr g b (1+(ss.take i).sum)/\wr.heap[L]?=some (.cells (ints (fillI (numsAt b 1 ss) i)).toArray 3 (0,0))/\Upd (fun j=>j=g\/j=L) w8 wr) (fun s30 _=>m-(intOf s30).toNat)
  case atStart=>exact⟨0,qYf _,rfl,by simpa using H8.o.2.2.1,by rw[H8.o.2.1];simp[fillI,natsI,zP,H8.o.2.2.2.2.2.2.2.2.2.2.1],uur _ _⟩
  case round=>
   obtain⟨i,hi,rfl,hR,hL,hu⟩:=hrel;obtain⟨hua,hgL,hR8,a1,a3,a4,hs7,gslt,u7,hss,hm,hN⟩:=H8.o;by_cases hlt:i<m
   .have hil:i<ss.length:=by omega
    have x1:wr.cell? ⟨gs,i,none⟩=some (.int .i64 (ss[i]:Int)):=hu.ja (hua.ja (hs7 i hil) (fun h=>h)) (by omega);have hsi:=hss.1 ss[i] (qyz hil);obtain⟨t1,t2⟩:=Qg ss hil;have hng:¬L=g:=by omega
    have hcx:∃v,wr.cell? ⟨L,i,none⟩=some v:=by
     rw[za hL];exact⟨_,qxe (by rw[qXm,yZ,Uu _ (by rw[zP];omega),zP];omega)⟩
    have hnx:Hid ((ints (fillI (numsAt b 1 ss) i)).toArray.setIfInBounds i (.int .i64 ((numB ((b.drop (1+(ss.take i).sum)).take ss[i]):Nat):Int))=(ints (fillI (numsAt b 1 ss) (i+1))).toArray):=by
     show _=_;rw[qXi,YC,<-XX b 1 ss i hil,Uv _ (by rw[zP];exact hil)]
    have hsum:Hid (1+(ss.take (i+1)).sum=1+(ss.take i).sum+ss[i]):=by show _=_;omega
    have b1:(0:Int)<=(i:Int)/\(i:Int)<(m:Int):=by omega
    have hbd:1+(ss.take i).sum+ss[i]<=60:=by omega
    have HX2:=Y6 hR hL hu hsi hbd hcx;clear hua hgL hR8 a1 a3 a4 hs7 gslt u7 hss hm hN t1 t2 hR hL hu hcx hbd hsi;obtain⟨b1,b2⟩:=b1;generalize ss[i]=si at*;go_wp2_with fail
    refine(EB HX2.o.1 si HX2.o.2.2.2.1.1 HX2.o.2.2.2.1.2 HX2.o.2.2.2.2.1).mono ?_;rintro e w9 ⟨rfl,hR9,hU9⟩;have hL9:=(hU9.block L (zf HX2.o.2.1) hng).trans HX2.o.2.1;obtain⟨v0,hv0⟩:=HX2.o.2.2.2.2.2;have c9:=hU9.ja hv0 hng;have z9:=zg hL9 i;have hL10:=zi hL9 i (.int .i64 ((numB ((b.drop (1+(ss.take i).sum)).take si):Nat):Int));rw[hnx.out]at hL10;have hR10:=hR9.keep (zj w9 L i (.int .i64 ((numB ((b.drop (1+(ss.take i).sum)).take si):Nat):Int))) (fun e=>hng e.symm);rw[<-hsum.out]at hR10;have hU10:Upd (fun j=>j=g\/j=L) w8 (w9.setCell ⟨L,i,none⟩ (.int .i64 ((numB ((b.drop (1+(ss.take i).sum)).take si):Nat):Int))):=
     HX2.o.2.2.1.trans ((hU9.mono (fun _ _ h=> .inl h)).trans ((zj _ _ _ _).mono (fun _ _ h=> .inr h)))
    have HZ:=Y3 hR10 hL10 hU10;clear hL9 hv0 hL10 hR10 hU10 hU9 hR9;go_wp2
    go_roundw
    case rel=>exact⟨i+1,by omega,by go_num,HZ.o.1,HZ.o.2.1,HZ.o.2.2⟩
    case measure=>simp[intOf];omega
   .obtain rfl:i=m:=by omega
    rw[qXp (by omega)]at hR;have hl5:i=(numsAt b 1 ss).length:=by rw[zP];omega
    rw[show fillI (numsAt b 1 ss) i=natsI (numsAt b 1 ss) by rw[hl5];exact Uw _]at hL;clear hl5;have u8r:Upd (fun j=>j=g\/j=L) w7 wr:=(hua.mono (fun _ _ h=>h.elim)).trans hu;have hLw:w.heap.size+4<=L:=hM7;have hlw:Below w.heap.size w wr:=by
     refine zl (zl (qxl _ w) u7 (qXv _) (fun k e=>by omega)) u8r (qXv _) (fun k e=>by omega)
    have e1:=(u8r.block _ (zf a1) (by omega)).trans a1;have e3:=(u8r.block _ (zf a3) (by omega)).trans a3;have e4:=(u8r.block _ (zf a4) (by omega)).trans a4;have hErr:∀W,Below wr.heap.size wr W->W.rangeAt (w.heap.size+1+1+1) 0 Z/\W.there (w.heap.size+1+1) 0 n6a/\Below w.heap.size w W:=fun W hW=>by
     have f3:=(hW.block _ (zf e3)).trans e3;refine⟨zh ((hW.block _ (zf e4)).trans e4),fun j hj=>?_,hlw.trans (hW.mono hlw.size)⟩;rw[za f3,zg f3];exact⟨by rw[qYe,qxe (by have:=hZl.out;simp;omega)];rfl,rfl⟩
    have m0:wr.cell? ⟨w.heap.size,0,none⟩=some (.int .i64 (k:Int)):=za e1 0;have m3:wr.cell? ⟨w.heap.size,3,none⟩=some (.func (.func fm) #[] cm):=za e1 3;have m4:wr.cell? ⟨w.heap.size,4,none⟩=some (.func (.func fb) #[] cb):=za e1 4;have HE:=Y6 hErr m3 m4 hR (zh hL) hlw;obtain⟨rz,tz,hbz⟩:=hErr wr (qxl _ _);clear hua hgL hR8 a1 a3 a4 hs7 gslt u7 hss hm hN hR hL hu u8r hlw e1 e3 e4 hErr m3 m4;by_cases hkk:kb=k
    .have hq:((kb:Int)==(k:Int))=true:=by rw[hkk];simp
     have hq2:((kb:Int) !=(k:Int))=false:=by rw[hkk];simp
     have HKK:=qqh hkk;clear hkk rz tz hbz;go_wp2_with fail
     refine(zct HE.o.2.2.2.1).mono ?_;rintro e w10 ⟨rfl,hb10⟩;obtain⟨rz,tz,hbz⟩:=HE.o.1 w10 hb10;have m3:=(uuo (S:=fun _=>False) hb10).ja HE.o.2.1 (fun h=>h);have m4:=(uuo (S:=fun _=>False) hb10).ja HE.o.2.2.1 (fun h=>h);have rL:=Below.range hb10 HE.o.2.2.2.2.1;have H10:=Y3 hb10 rL m4;clear rL m4 hb10;have HBz:=qqh hbz;clear hbz;by_cases hen:endB b (1+ss.sum)=true
     .have he0:endC b (1+ss.sum)=0:=if_pos hen;rw[he0];clear he0 rz tz;have HEN:=qqh hen;clear hen;go_wp2_with fail
      refine(H.o.2.2.1 w10 L i rfl HBz.out H10.o.2.1).mono ?_;rintro e w11 ⟨rfl,hb11⟩;obtain⟨rz,tz,hbz11⟩:=HE.o.1 w11 (H10.o.1.trans (hb11.mono H10.o.1.size));have m4:=(uuo (S:=fun _=>False) hb11).ja H10.o.2.2 (fun h=>h);have rL:=Below.range hb11 H10.o.2.1;have HBz11:=qqh hbz11;have HRL:=qqh rL;have HBz11b:=qqh hb11;clear rL hbz11 hb11;cases mb with
      |true=>
       have HR:Hid (okGet b k ss true=true):=by
        show _=_;simp only[okGet,HS.o,HEN.o,decide_true,qxp,Bool.and_true,qYz];have:=HK.o;rw[qyc]at this;rw[<-this,HKK.o]
       clear rz tz;go_wp2_with fail
       refine(H.o.2.2.2.1 HR.o w11 L i rfl HBz11.out HRL.o).mono ?_;rintro e w12 ⟨rfl,hb12⟩;obtain⟨-,tz,hbz12⟩:=HE.o.1 w12 ((H10.o.1.trans ((HBz11b.out).mono H10.o.1.size)).trans (hb12.mono (by have:=H10.o.1.size;have:=HBz11b.out.size;omega)));have hdl:ds.length=n6a:=by have h1:=HC.o.1;rw[q7a]at h1;injection h1 with h1;exact h1.symm
       have hst:w12.there (w.heap.size+1+1) 0 ds.toArray.size:=by rw[show ds.toArray.size=n6a by simpa using hdl];exact tz
       have hst2:w12.there (w.heap.size+1+1) 0 ds.length:=by rw[hdl];exact tz
       have hsz2:(prog.info? n5a).map (·.size)=some ds.toArray.size:=by rw[show ds.toArray.size=n6a by simpa using hdl];exact q7a
       have HST:=Y4 hst hsz2 hst2 hbz12;clear hst hsz2 hst2 hdl hbz12 tz hb12;go_wp2_with (first
        |(refine qZi rfl _ _ _ rfl _ _ ds.toArray rfl rfl HST.o.1 HST.o.2.1 (qYu HC.o.2.1) ?_)
        |fail)
       exact qYw (zp rfl _ _ (w.heap.size+1+1) 0 ds _ rfl (qYr _ _ _ _ HST.o.2.2.1) QP rfl HC.o.1) rfl
        ⟨⟨ds,fun _=>rfl,fun h=>(by rw[HR.o]at h;cases h),by rw[show xe b k ss true=0 from if_pos HR.o];rfl⟩,zl HST.o.2.2.2 (zq _ (w.heap.size+1+1) 0 _) (qXv _) (fun k e=>by omega)⟩
      |false=>
       have HR:Hid (okGet b k ss false=false):=by show _=_;simp[okGet]
       go_wp2_with (first
        |(refine qZg rfl _ _ rfl _ _ rfl _ _ rz QP rfl hsZ.out ?_)
        |(refine qZi rfl _ _ _ rfl _ _ Z.toArray rfl rfl (by rw[hZs.out];exact tz) hsA.out hZ1.out ?_)
        |fail)
       exact qYw (zp rfl _ _ (w.heap.size+1+1) 0 Z _ rfl (qYr _ _ _ _ (by first|(rw[hZs.out];exact tz)|(rw[hZl.out];exact tz))) QP rfl hsZ.out) rfl
        ⟨⟨_,fun h=>(by rw[HR.o]at h;cases h),fun _=>rfl,by rw[qD HS.o HR.o,HZ.o];rfl⟩,zl HBz11.out (zq _ (w.heap.size+1+1) 0 _) (qXv _) (fun k e=>by omega)⟩
     .have he0:endC b (1+ss.sum)=12:=if_neg hen;rw[he0];clear he0;have HR:Hid (okGet b k ss mb=false):=by show _=_;simp[okGet,hen]
      clear hen;go_wp2_with (first
       |(refine qZg rfl _ _ rfl _ _ rfl _ _ rz QP rfl hsZ.out ?_)
       |(refine qZi rfl _ _ _ rfl _ _ Z.toArray rfl rfl (by rw[hZs.out];exact tz) hsA.out hZ1.out ?_)
       |fail)
      exact qYw (zp rfl _ _ (w.heap.size+1+1) 0 Z _ rfl (qYr _ _ _ _ (by first|(rw[hZs.out];exact tz)|(rw[hZl.out];exact tz))) QP rfl hsZ.out) rfl
       ⟨⟨_,fun h=>(by rw[HR.o]at h;cases h),fun _=>rfl,by rw[qD HS.o HR.o,HZ.o];rfl⟩,zl HBz.out (zq _ (w.heap.size+1+1) 0 _) (qXv _) (fun k e=>by omega)⟩
    .have hq:((kb:Int)==(k:Int))=false:=by rw[qYv];omega
     have hq2:((kb:Int) !=(k:Int))=true:=by rw[bne_iff_ne];omega
     have HR:Hid (okGet b k ss mb=false):=by
      show _=_;have:=HK.o;rw[qyc]at this;simp[okGet,<-this,hkk]
     have HBz:=qqh hbz;clear hkk hbz;go_wp2_with (first
      |(refine qZg rfl _ _ rfl _ _ rfl _ _ rz QP rfl hsZ.out ?_)
      |(refine qZi rfl _ _ _ rfl _ _ Z.toArray rfl rfl (by rw[hZs.out];exact tz) hsA.out hZ1.out ?_)
      |fail)
     exact qYw (zp rfl _ _ (w.heap.size+1+1) 0 Z _ rfl (qYr _ _ _ _ (by first|(rw[hZs.out];exact tz)|(rw[hZl.out];exact tz))) QP rfl hsZ.out) rfl
      ⟨⟨_,fun h=>(by rw[HR.o]at h;cases h),fun _=>rfl,by rw[qD HS.o HR.o,HZ.o];rfl⟩,zl HBz.out (zq _ (w.heap.size+1+1) 0 _) (qXv _) (fun k e=>by omega)⟩
 .have hsc:sealedC b=13:=if_neg hsl;have hres:=XY (k:=k) (ss:=ss) (mb:=mb) hsl;rw[hsc];have HR:=qqh hres;clear hsc hsl hres;obtain⟨g1,g2,g3,g4,u5,z4,z5⟩:=H5.o;have r4:=zh g4;have hth:w5.there (w.heap.size+1+1) 0 n6a:=fun j hj=>by
   rw[za g3,zg g3];exact⟨by rw[qYe,qxe (by have:=hZl.out;simp;omega)];rfl,rfl⟩
  have HU:=qqh u5;clear g1 g2 g3 g4 u5 z4 z5;go_wp2_with (first
   |(refine qZg rfl _ _ rfl _ _ rfl _ _ r4 QP rfl hsZ.out ?_)
   |(refine qZi rfl _ _ _ rfl _ _ Z.toArray rfl rfl (by rw[hZs.out];exact hth) hsA.out hZ1.out ?_)
   |fail)
  refine qYw (zp rfl _ _ (w.heap.size+1+1) 0 Z _ rfl (qYr _ _ _ _ (by first|(rw[hZs.out];exact hth)|(rw[hZl.out];exact hth))) QP rfl hsZ.out) rfl
   ⟨⟨_,fun h=>(by rw[HR.o.1]at h;cases h),fun _=>rfl,by rw[HR.o.2,HZ.o];rfl⟩,zl (Upd.below HU.o) (zq w5 (w.heap.size+1+1) 0 _) (qXv _) (fun k e=>by omega)⟩):P:=h
def tH:List Value:=[Value.int .i64 0,.int .i64 0,.int .i64 0,.int .i64 0,.int .i64 0,.bool false,.int .i64 0]
theorem ZD:(tH.toArray).all (·.oneCell')=true:=by simp[tH,Value.oneCell']
namespace fGetR
abbrev n1a:Nat:=296
theorem q2a:type_of% @func177:= @func177
theorem q3a:type_of% @ntmps177:= @ntmps177
abbrev d4a:= @tH
abbrev n5a:Nat:=101
abbrev n6a:Nat:=7
theorem q7a:type_of% @infoThR:= @infoThR
theorem q8a:type_of% @ZD:= @ZD
theorem QP:type_of% @underlying101:= @underlying101
end fGetR
open fGetR in
theorem QQ{w:World}(b:Bk)(hb:b.length=64)(k:Nat)(ss:List Nat)(hss:(∀s∈ss,1<=s/\s<=7)/\ss.sum<=59)(m:Nat)(hm:ss.length=m)(hm2:m<=100)(gs cl:Nat)(fm fb:Nat)(cm cb:Array Value)(tv:Value)(mb:Bool)(ds:List Value)
  (hds:(prog.info? 101).map (·.size)=some ds.length) (hd1:∀v∈ds,v.oneCell'=true) (hs:w.rangeAt gs 0 (ints (natsI ss))) (hN:Nib w)
  (entM:∀args w,(callFunc fm args).run prog w=.ok (.enter fm args) w) (entB:∀args w,(callFunc fb args).run prog w=.ok (.enter fb args) w)
  (hmay:∀W gl c,c=m->Below w.heap.size w W->W.rangeAt gl 0 (ints (natsI (numsAt b 1 ss)))->Calls prog fm (#[.slice (some ⟨gl,0,none⟩) m c]++cm) W fun e W'=>e=.returned (.bool mb)/\Below W.heap.size W W')
  (hbuild:okGet b k ss mb=true->∀W gl c,c=m->Below w.heap.size w W->W.rangeAt gl 0 (ints (natsI (numsAt b 1 ss)))->Calls prog fb (#[.slice (some ⟨gl,0,none⟩) m c]++cb) W fun e W'=>e=.returned (.agg ds.toArray)/\Below W.heap.size W W'):
  Calls prog 177 #[.agg #[.int .i64 (k:Int),.slice (some ⟨gs,0,none⟩) m cl,tv,.func (.func fm) #[] cm,.func (.func fb) #[] cb],.agg (bkC b).toArray] w
   (vl w (okGet b k ss mb) ds tH (xe b k ss mb)):=wu
def zeroS:List Value:=[Value.int .i64 0,.int .i64 0,.int .i64 0,.int .i64 0,.int .i64 0,.int .i64 0,.int .i64 0]
theorem qT:(zeroS.toArray).all (·.oneCell')=true:=by simp[zeroS,Value.oneCell']
namespace fGetS
abbrev n1a:Nat:=137
theorem q2a:type_of% @func129:= @func129
theorem q3a:type_of% @ntmps129:= @ntmps129
abbrev d4a:= @zeroS
abbrev n5a:Nat:=40
abbrev n6a:Nat:=7
theorem q7a:type_of% @yw:= @yw
theorem q8a:type_of% @qT:= @qT
theorem QP:type_of% @underlying40:= @underlying40
end fGetS
open fGetS in
theorem QR{w:World}(b:Bk)(hb:b.length=64)(k:Nat)(ss:List Nat)(hss:(∀s∈ss,1<=s/\s<=7)/\ss.sum<=59)(m:Nat)(hm:ss.length=m)(hm2:m<=100)(gs cl:Nat)(fm fb:Nat)(cm cb:Array Value)(tv:Value)(mb:Bool)(ds:List Value)
  (hds:(prog.info? 40).map (·.size)=some ds.length) (hd1:∀v∈ds,v.oneCell'=true) (hs:w.rangeAt gs 0 (ints (natsI ss))) (hN:Nib w)
  (entM:∀args w,(callFunc fm args).run prog w=.ok (.enter fm args) w) (entB:∀args w,(callFunc fb args).run prog w=.ok (.enter fb args) w)
  (hmay:∀W gl c,c=m->Below w.heap.size w W->W.rangeAt gl 0 (ints (natsI (numsAt b 1 ss)))->Calls prog fm (#[.slice (some ⟨gl,0,none⟩) m c]++cm) W fun e W'=>e=.returned (.bool mb)/\Below W.heap.size W W')
  (hbuild:okGet b k ss mb=true->∀W gl c,c=m->Below w.heap.size w W->W.rangeAt gl 0 (ints (natsI (numsAt b 1 ss)))->Calls prog fb (#[.slice (some ⟨gl,0,none⟩) m c]++cb) W fun e W'=>e=.returned (.agg ds.toArray)/\Below W.heap.size W W'):
  Calls prog 129 #[.agg #[.int .i64 (k:Int),.slice (some ⟨gs,0,none⟩) m cl,tv,.func (.func fm) #[] cm,.func (.func fb) #[] cb],.agg (bkC b).toArray] w
   (vl w (okGet b k ss mb) ds zeroS (xe b k ss mb)):=wu
def vI:List Value:=[Value.int .i64 0,.int .i64 0,.int .i64 0,.int .i64 0,.int .i64 0,.int .i64 0,.bool false,.int .i64 0,.int .i64 0,.int .i64 0,.bool false,.int .i64 0,.int .i64 0,.int .i64 0,.bool false,.int .i64 0,.int .i64 0,.int .i64 0,.bool false,.int .i64 0]
theorem ZE:(vI.toArray).all (·.oneCell')=true:=by simp[vI,Value.oneCell']
namespace fGetP
abbrev n1a:Nat:=380
theorem q2a:type_of% @func245:= @func245
theorem q3a:type_of% @ntmps245:= @ntmps245
abbrev d4a:= @vI
abbrev n5a:Nat:=280
abbrev n6a:Nat:=20
theorem q7a:type_of% @wn:= @wn
theorem q8a:type_of% @ZE:= @ZE
theorem QP:type_of% @underlying280:= @underlying280
end fGetP
open fGetP in
theorem QS{w:World}(b:Bk)(hb:b.length=64)(k:Nat)(ss:List Nat)(hss:(∀s∈ss,1<=s/\s<=7)/\ss.sum<=59)(m:Nat)(hm:ss.length=m)(hm2:m<=100)(gs cl:Nat)(fm fb:Nat)(cm cb:Array Value)(tv:Value)(mb:Bool)(ds:List Value)
  (hds:(prog.info? 280).map (·.size)=some ds.length) (hd1:∀v∈ds,v.oneCell'=true) (hs:w.rangeAt gs 0 (ints (natsI ss))) (hN:Nib w)
  (entM:∀args w,(callFunc fm args).run prog w=.ok (.enter fm args) w) (entB:∀args w,(callFunc fb args).run prog w=.ok (.enter fb args) w)
  (hmay:∀W gl c,c=m->Below w.heap.size w W->W.rangeAt gl 0 (ints (natsI (numsAt b 1 ss)))->Calls prog fm (#[.slice (some ⟨gl,0,none⟩) m c]++cm) W fun e W'=>e=.returned (.bool mb)/\Below W.heap.size W W')
  (hbuild:okGet b k ss mb=true->∀W gl c,c=m->Below w.heap.size w W->W.rangeAt gl 0 (ints (natsI (numsAt b 1 ss)))->Calls prog fb (#[.slice (some ⟨gl,0,none⟩) m c]++cb) W fun e W'=>e=.returned (.agg ds.toArray)/\Below W.heap.size W W'):
  Calls prog 245 #[.agg #[.int .i64 (k:Int),.slice (some ⟨gs,0,none⟩) m cl,tv,.func (.func fm) #[] cm,.func (.func fb) #[] cb],.agg (bkC b).toArray] w
   (vl w (okGet b k ss mb) ds vI (xe b k ss mb)):=wu
end Go.Proofs.YtfhfbpmlnjdfoaaGreatDoor
