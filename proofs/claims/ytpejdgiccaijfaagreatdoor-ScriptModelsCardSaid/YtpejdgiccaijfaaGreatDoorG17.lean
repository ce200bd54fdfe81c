/- Pages: Save. A -/
import Derived.Test.YtpejdgiccaijfaaGreatDoorG10
import Derived.Test.YtpejdgiccaijfaaGreatDoorG11
import Derived.Test.YtpejdgiccaijfaaGreatDoorG13
import Derived.Test.YtpejdgiccaijfaaGreatDoorG12
set_option maxRecDepth 100000
set_option maxHeartbeats 4000000
namespace Go.Proofs.YtpejdgiccaijfaaGreatDoor
open Go Go.RowKit Tryz
section
open Go Go.RowKit Go.Shelf Tryz
attribute [local go_sem] qYa
section
variable{own own':Nat->Nat}{w w':World}{c:Nat}{n:CaN}{p:CaP}{a:CaS}
def Box(own:Nat->Nat)(w:World)(b:Nat)(o:Obj):Prop:=w.heap[b]?=some o/\own b=0
theorem Box.did{b:Nat}{o:Obj}(h:Box own w b o)(hd:Did own own' w w'):Box own' w' b o:=
 ⟨(hd.upd.block b (zd h.1) (fun hs=>hs.1 h.2)).trans h.1,(hd.old b (zd h.1)).trans h.2⟩
theorem Box.new{b:Nat}{o:Obj}(h:Box own w b o)(hu:Upd (fun _=>False) w w'):Box own w' b o:=⟨hu.jT h.1,h.2⟩
theorem Box.made(hf:∀j,w.heap.size<=j->own j=0)(o:Obj):Box own (w.alloc o) w.heap.size o:=⟨zc w o rfl,hf _ (qXo _)⟩
theorem CaAt.j9(h:CaAt own w c n p a){S:Nat->Prop}(hu:Upd S w w')(hS:∀j,S j->own j=0/\j≠0/\j≠1):CaAt own w' c n p a:=by
 have hne:∀(k j:Nat),k≠0->own j=k->¬S j:=fun k j hk hj hs=>hk (hj.symm.trans (hS j hs).1);exact{h with
  str:=(hu.block c h.clt (hne 1 c de h.oc)).trans h.str
  ssd:=h.ssd.keep hu (fun j hj=>hne _ j de hj)
  back:=h.back.keep hu (fun j hj=>hne _ j de hj)
  jr:=(Jn.kB _ _ _ _ _ _ _).keep h.jr hu (fun j hj=>hne _ j de hj)
  ix:=(Ix.kB _ _ _ _).keep h.ix hu (fun j hj=>hne _ j de hj)
  ss:=(Ss.kB _ _).keep h.ss hu (fun j hj=>hne _ j de hj)
  lg:=(Lg.kB _ _ _).keep h.lg hu (fun j hj=>hne _ j de hj)
  ck:=h.ck.keep hu (fun j hj=>hne _ j de hj)
  sm:=(Mp.kB _ _ _).keep h.sm hu (fun j hj=>hne _ j de hj)
  far:=fun j hj=>h.far j (qXq hu.size hj)
  nib:=h.nib.keep hu (fun hs=>(hS _ hs).2.1 rfl)
  tur:=h.tur.keep hu (fun hs=>(hS _ hs).2.2 rfl)}
theorem sL{b:Nat}{o:Obj}{u:Value}{i:Nat}{b2:Nat}(h:w.heap[b]?=some o)(ho:o.isCells=false)(hc:w.cell? ⟨b2,i,none⟩=some u):b≠b2:=by
 rintro rfl;cases o<;>simp[World.cell?,h,Obj.isCells]at hc ho
theorem uF(W:World)(l:Nat)(o':Obj):Upd (fun j=>j=l) W (W.putObj l o'):=
 ⟨rfl,rfl,rfl,by simp[World.putObj],fun k _ hk=>by
  simp only[World.putObj];rw[qxg (fun e=>hk e.symm)]⟩
theorem CaAt.putObj(h:CaAt own w c n p a){b:Nat}{o:Obj}(hb:Box own w b o)(ho:o.isCells=false)(o':Obj):CaAt own (w.putObj b o') c n p a:=
 h.j9 (uF w b o') (fun j e=>by subst e;exact⟨hb.2,sL hb.1 ho (h.nib.c 0 de),sL hb.1 ho h.tur.c0⟩)
theorem Did.putObj(h:Did own own' w w'){b:Nat}(hb:w.heap.size<=b)(o':Obj):Did own own' w (w'.putObj b o'):=
 ⟨h.upd.new (uF w' b o') (fun i hi e=>oM),h.old,h.new,fun j hj=>h.far j (by simpa[World.putObj]using hj)⟩
end
end
section
theorem sM{k:Nat}(hk:k<256){sz:List Nat}{xs:List Int}(h:xs.length=sz.length)(h0:∀x∈xs,0<=x)(hf:Zn (numL sz xs))(mb:Bool):
  okGet (sectB k (numL sz xs)) k sz mb=mb/\natsI (numsAt (sectB k (numL sz xs)) 1 sz)=xs:=by
 have h2:(numL sz xs).map (·.2)=sz:=by unfold numL;rw[List.map_snd_zip (by simp[h])]
 obtain⟨s1,s2⟩:=Jq hk hf mb;rw[h2]at s1 s2;refine⟨s1,?_⟩;rw[s2];have:=uT h h0;unfold numsL at this;unfold natsI;rw[qzi];exact this
def numsP(b:Bk):List Nat:=numsAt b 1 Vz
def okP(b:Bk):Bool:=okGet b 3 Vz (mayP (natsI (numsP b)))
def cdP(b:Bk):Int:=xg b 3 Vz (mayP (natsI (numsP b)))
theorem Tx{xs:List Int}(hx:xs.length=20)(h:mayP xs=true):okP (sectP xs)=true/\natsI (numsP (sectP xs))=xs:=by
 obtain⟨h0,hf⟩:=uV hx h;obtain⟨s1,s2⟩:=sM (k:=3) de (sz:=Vz) (by rw[hx];rfl) h0 hf (mayP (natsI (numsP (sectP xs))));have h3:natsI (numsP (sectP xs))=xs:=s2;refine⟨?_,h3⟩;unfold okP;rw[show okGet (sectP xs) 3 Vz (mayP (natsI (numsP (sectP xs))))=mayP (natsI (numsP (sectP xs)))from s1,h3];exact h
def entX(xs:List Int)(i:Nat):List Value:=[.int .i64 ((rowI xs i).getD 0 0),.int .i64 ((rowI xs i).getD 1 0),.bool ((rowI xs i).getD 2 0==1),.int .i64 ((rowI xs i).getD 3 0)]
def Rw:List Value:=[.int .i64 0,.int .i64 0,.bool false,.int .i64 0]
def dsPk(xs:List Int)(k:Nat):List Value:=[.int .i64 (xs.getD 0 0),.int .i64 (xs.getD 1 0),.int .i64 (xs.getD 2 0),.int .i64 (xs.getD 3 0)]++(List.range 4).flatMap fun i=>if i<k then entX xs i else Rw
def dsP(xs:List Int):List Value:=dsPk xs 4
theorem xV(xs:List Int)(k:Nat):(dsPk xs k).length=20:=by
 have e:∀i,(if i<k then entX xs i else Rw).length=4:=fun i=>by split<;>rfl
 simp[dsPk,List.range_succ,e]
theorem Xl(xs:List Int)(k:Nat):∀v∈dsPk xs k,v.oneCell'=true:=by
 intro v hv;rcases qzl.1 hv with hv|hv
 .simp only[qzm,qzy,qYt]at hv;rcases hv with rfl|rfl|rfl|rfl<;>rfl
 .obtain ⟨i,-,hi⟩:=qzp.1 hv;split at hi<;>(simp only[entX,Rw,qzm,qzy,qYt]at hi;rcases hi with rfl|rfl|rfl|rfl<;>rfl)
theorem vt(xs:List Int):(dsP xs).length=20:=xV xs 4
theorem vu(xs:List Int):∀v∈dsP xs,v.oneCell'=true:=Xl xs 4
theorem Ty(xs:List Int){k:Nat}(hk:k<4):(dsPk xs k).take (4+k*4)++entX xs k++(dsPk xs k).drop (4+k*4+4)=dsPk xs (k+1):=by
 rcases(show k=0\/k=1\/k=2\/k=3 by omega)with rfl|rfl|rfl|rfl<;>rfl
theorem VW(w:World):(Instr.alloc 297 true (.tuple #[])).run prog w=.ok (.pointer (some ⟨w.heap.size,0,none⟩)) (w.alloc (.cells (dsPk [] 0).toArray 297)):=by
 kernel_rfl
theorem Rx(x0 x1 x2 x3:Int)(W:World):(Instr.build 297 #[(0,.int .i64 x0),(1,.int .i64 x1),(2,.int .i64 x2),(3,.int .i64 x3)]).run prog W=.ok (.agg ([Value.int .i64 x0,.int .i64 x1,.int .i64 x2,.int .i64 x3]++(List.range 4).flatMap fun _=>Rw).toArray) W:=by
 kernel_rfl
theorem vJ{cs' cs:Array Value}{vs:List Value}{o:Nat}(_hs:cs'.size=cs.size)(hl:o+vs.length<=cs.size)(h:∀j,cs'[j]?=if o<=j/\j<o+vs.length/\j<cs.size then vs[j-o]? else cs[j]?):cs'=(cs.toList.take o++vs++cs.toList.drop (o+vs.length)).toArray:=by
 apply qxd
 intro j;rw[h j];simp only[qyq,qxw,List.getElem?_append,qzf,qyp,qyi,qxh,Nat.min_eq_left (show o<=cs.size by omega),Array.getElem?_toList];by_cases h1:j<o
 .rw [if_neg oM,if_pos h1,if_pos h1]
 .by_cases h2:j<o+vs.length
  .rw [if_pos oM,if_neg h1,if_pos oM]
  .rw [if_neg oM,if_neg h1,if_neg oM]
   congr 1
   omega
theorem Xm{xs:List Int}{k:Nat}{w:World}{b:Nat}{T:TypeId}(hk:k<4)(h:w.heap[b]?=some (.cells (dsPk xs k).toArray T (0,0))):(w.setCells b (4+k*4) (entX xs k)).heap[b]?=some (.cells (dsPk xs (k+1)).toArray T (0,0)):=by
 obtain⟨cs',h1,h2,h3⟩:=zy (entX xs k) (4+k*4) w b (dsPk xs k).toArray T (0,0) h;rw[h1,vJ h2 (by rw[qXh,xV];show 4+k*4+4<=20;omega) h3,<-Ty xs hk];rfl
theorem zaE{w:World}{gl ol cl:Nat}(xs:List Int)(hxl:xs.length=20)(hx:w.rangeAt gl ol (ints xs))(hcl:20<=cl)(hcm:cl<=maxLen):
  Calls prog 346 (#[.slice (some ⟨gl,ol,none⟩) 20 cl]++ #[]) w fun e w'=>e=.returned (.agg (dsP xs).toArray)/\Below w.heap.size w w':=by
 have c0:=yt hx 0 oM;have c1:=yt hx 1 oM;have c2:=yt hx 2 oM;have c3:=yt hx 3 oM;rw[qXm]at c0;have hlt:gl<w.heap.size:=qYg w _ c0;have h00:dsPk xs 0=[.int .i64 (xs.getD 0 0),.int .i64 (xs.getD 1 0),.int .i64 (xs.getD 2 0),.int .i64 (xs.getD 3 0)]++(List.range 4).flatMap fun _=>Rw:=rfl;have hbl:=Rx (xs.getD 0 0) (xs.getD 1 0) (xs.getD 2 0) (xs.getD 3 0);rw[<-h00]at hbl;have H0:=qqh h00;generalize xs.getD 0 0=x0 at*;generalize xs.getD 1 0=x1 at*;generalize xs.getD 2 0=x2 at*;generalize xs.getD 3 0=x3 at*;obtain⟨Z,hZ⟩:=qqe (dsPk [] 0);have hal:=VW;simp only[<-hZ]at hal;have hZl:Z.toArray.size=20:=by rw[hZ,qXh,xV]
 obtain⟨L,hL⟩:=qqe (dsPk xs 0);rw[<-hL]at hbl;have hLl:L.toArray.size=20:=by rw[hL,qXh,xV]
 have hLi:(prog.info? 297).map (·.size)=some L.toArray.size:=by rw[hLl];exact wJ
 have hL1:∀v∈L,v.oneCell'=true:=by rw[hL];exact Xl _ _
 obtain⟨w1,hw1⟩:=qqe (w.alloc (.cells Z.toArray 297));have hu1:=qqu hw1;have g1:=qqg hw1;have z1:w1.heap.size=w.heap.size+1:=by rw[hw1];simp
 have d0:=hu1.jS c0 id;have d1:=hu1.jS c1 id;have d2:=hu1.jS c2 id;have d3:=hu1.jS c3 id;have HW1:=qqh hw1;have HX:=Y8 hx hxl hcl hcm hu1 g1 z1 hL;clear hx hxl hcl hcm hu1 g1 z1 hL hw1 c0 c1 c2 c3 hZ h00 H0;go_enter func346,ntmps346
 go_wp2_with (first
  |(refine zS rfl _ rfl _ hal ?_)
  |fail)
 rw[<-HW1.o];refine qZb (S:=fun W=>W.cell? ⟨gl,ol,none⟩=some (.int .i64 x0)/\W.cell? ⟨gl,ol+1,none⟩=some (.int .i64 x1)/\W.cell? ⟨gl,ol+2,none⟩=some (.int .i64 x2)/\W.cell? ⟨gl,ol+3,none⟩=some (.int .i64 x3)) kR (by(simp only[qYh]);exact⟨d0,d1,d2,d3⟩) (fun hHeld=>?_);refine Wl.i [0,1,2,3,4,5,6,7,8,9,10,11] ?_;iterate 12 refine Wl.t hHeld ?_
 refine Wl.o ?_;refine qYx (i:=12) (v:=.agg L.toArray) rfl kR kR kR (fun _ _ _ h=>h) (Or.inl ⟨by rfl,fun W _=>?_⟩) hHeld ?_
 .simp only[qyx,qyr,qys,execOp,qYf,qzk,qzh,qzj]
  change ((Instr.build 297 #[(0,.int .i64 x0),(1,.int .i64 x1),(2,.int .i64 x2),(3,.int .i64 x3)]).run prog W).andThen _=_
  rw[hbl];rfl
 simp only[qyx,qyr,qys,Act.put,qXd,qXg,qXf];refine Wl.r 13 (fun K hK=>?_);rw[if_pos oy];unfold Oper.wp;simp only[qyx,qyr,qys,execOp,qYf,hal,qYe];have hZg:=zc w1.drew (.cells Z.toArray 297) rfl;have hua:=(uur (fun _=>False) w1.drew).alloc (.cells Z.toArray 297);obtain⟨w2,hw2⟩:=qqe (w1.drew.alloc (.cells Z.toArray 297));rw[<-hw2]at hZg hua⊢;simp only[World.size_drew]at hZg;have e0:=hua.jS hHeld.1 id;have e1:=hua.jS hHeld.2.1 id;have e2:=hua.jS hHeld.2.2.1 id;have e3:=hua.jS hHeld.2.2.2 id;refine hK.o _ _ ⟨e0,e1,e2,e3⟩ (fun hH2=>?_);clear hK K;have hth:w2.there w1.heap.size 0 L.toArray.size:=fun j hj=>by
  rw[za hZg,qXx,qxe (by rw[hZl,<-hLl];exact hj)];exact⟨rfl,zf hZg _⟩
 refine Wl.r 14 (fun K hK=>?_);rw[if_pos oy];refine qZc _ _ _ rfl _ _ L.toArray rfl rfl hth hLi (qYn hL1) ?_;simp only[Act.put,qXd];have hus:=zo w2 w1.heap.size 0 L;have hgl1:gl≠w1.heap.size:=by have:=HX.o.2.2.2.2.2.2.1;omega
 have g3:(w2.setCells w1.heap.size 0 L).heap[w1.heap.size]?=some (.cells L.toArray 297 (0,0)):=by
  obtain⟨cs',q1,q2,q3⟩:=zy L 0 w2 w1.heap.size Z.toArray 297 (0,0) hZg;rw[q1,vJ q2 (by rw[hZl,<-hLl,qXh];omega) q3];have:L.length=Z.toArray.size:=by rw[hZl,<-hLl,qXh]
  rw[qXx,List.take_zero,qzu,List.drop_of_length_le (by rw[qxh];omega),qxx]
 obtain⟨hx,hxl,hcl,hcm,hu1,g1,z1,hL⟩:=HX.o;have hu12:Upd (fun _=>False) w1 w2:=((uur _ w1).drew).trans hua;have g13:=(hus.block w.heap.size (by have:=zd g1;have:=hu12.size;omega) oM).trans (hu12.jT g1);have hu3:Upd (fun j=>j=w1.heap.size) w (w2.setCells w1.heap.size 0 L):=((hu1.trans hu12).mono fE).trans hus;refine hK.o _ _ ⟨hus.jS hH2.1 hgl1,hus.jS hH2.2.1 hgl1,hus.jS hH2.2.2.1 hgl1,hus.jS hH2.2.2.2 hgl1⟩ (fun _=>?_);clear hK K;refine Wl.d ?_;rw[z1]at g3 hus hgl1 hu3 g13;simp only[World.size_drew,z1];generalize w2.setCells (w.heap.size+1) 0 L=w3 at*;rw[hL]at g3;have hxd:=((hu1.trans hu12).range hx id)
 have hx3:=hus.range hxd hgl1;have HZ:=qqh hZl;have H3:=Y8 hx3 g3 g13 hu3 hxl hcl hcm hgl1;clear hx hxl hcl hcm hu1 g1 hL hus hZg hua e0 e1 e2 e3 hth hH2 hHeld hu12 g13 hu3 hxd hx3 g3 d0 d1 d2 d3 hw2 hal hbl hLl hLi hL1 hZl HX HW1 hgl1 z1;go_wp2_with fail
 go_loopg[19] 4 (fun g s19 wr=>∃k:Nat,k+g=4/\s19=.int .i64 (k:Int)/\wr.heap[w.heap.size+1]?=some (.cells (dsPk xs k).toArray 297 (0,0))/\Upd (fun j=>j=w.heap.size+1) w3 wr)
 case atStart=>exact⟨0,oM,rfl,H3.o.2.1,uur _ _⟩
 case round=>
  obtain⟨k,hk,rfl,hg,hu⟩:=hrel;obtain⟨hx3,g3,g13,hu3,hxl,hcl,hcm,hgl1⟩:=H3.o;by_cases hlt:k<4
  .have k1:(k:Int)<4:=oM;have k0:(0:Int)<=(k:Int):=oM;have HR:=qqh (Vw (hu.range hx3 hgl1) hxl hcl hcm k hlt);have hrl:=xR hxl hlt;obtain⟨a0,a1,a2,a3,hrow⟩:∃a0 a1 a2 a3,rowI xs k=[a0,a1,a2,a3]:=by
    match rowI xs k,hrl with
    |[a0,a1,a2,a3],_=>exact⟨_,_,_,_,rfl⟩
   rw[hrow]at HR;have hE:Hid (entX xs k=[.int .i64 a0,.int .i64 a1,.bool (a2==1),.int .i64 a3]):=by show _=_;unfold entX;rw[hrow];rfl
   have HG:=Y2 hg hu;clear hx3 g3 g13 hu3 hxl hcl hcm hgl1 hg hu hrl hrow;go_wp2_with fail
   refine HR.o.mono ?_;rintro e w4 ⟨rfl,hb4⟩;have hua:Upd (fun _=>False) wr (w4.alloc (.cells #[.int .i64 a0,.int .i64 a1,.int .i64 a2,.int .i64 a3] 444)):=(uuo hb4).alloc _;have hg5:=hua.jT HG.o.1;have hth:(w4.alloc (.cells #[.int .i64 a0,.int .i64 a1,.int .i64 a2,.int .i64 a3] 444)).there (w.heap.size+1) (4+k*4) 4:=fun j hj=>by
    rw[za hg5,zf hg5,qxe (by rw[qXh,xV];omega)];exact⟨rfl,rfl⟩
   have HU:=Y2 hua hg5;obtain⟨E,hEE⟩:∃E:List Value,E=[.int .i64 a0,.int .i64 a1,.bool (a2==1),.int .i64 a3]:=⟨_,rfl⟩
   have hone:E.toArray.all (·.oneCell')=true:=by rw[hEE];simp[Value.oneCell']
   have hEn:(prog.info? 155).map (·.size)=some E.toArray.size:=by rw[hEE];exact Zo
   have hth':(w4.alloc (.cells #[.int .i64 a0,.int .i64 a1,.int .i64 a2,.int .i64 a3] 444)).there (w.heap.size+1) (4+k*4) E.toArray.size:=by rw[hEE];exact hth
   replace hth:=hth';clear hua hg5 hb4;simp only[ints,qzh,qzj];go_wp2_with (first
    |(refine zk rfl _ _ _ rfl _ _ [Value.int .i64 a0,.int .i64 a1,.int .i64 a2,.int .i64 a3] rfl rfl rfl Wb oQ ?_)
    |(refine qZa rfl _ _ _ rfl (w.heap.size+1) (4+k*4) E.toArray rfl (by rw[hEE];rfl) hth hEn hone ?_)
    |fail)
   obtain⟨hua,hg5⟩:=HU.o;have hgs:=Xm hlt hg5;rw[hE.out]at hgs;have hu5:=(HG.o.2.trans (hua.mono (S':=fun j=>j=w.heap.size+1) (fun _ _ h=>h.elim))).trans (zo (w4.alloc (.cells #[.int .i64 a0,.int .i64 a1,.int .i64 a2,.int .i64 a3] 444)) (w.heap.size+1) (4+k*4) [Value.int .i64 a0,.int .i64 a1,.bool (a2==1),.int .i64 a3]);generalize (w4.alloc (.cells #[.int .i64 a0,.int .i64 a1,.int .i64 a2,.int .i64 a3] 444)).setCells (w.heap.size+1) (4+k*4) [Value.int .i64 a0,.int .i64 a1,.bool (a2==1),.int .i64 a3]=w6 at*;have HX:=Y2 hgs hu5;clear hua hg5 hgs hu5 hth hth' hone hEn hEE HU;go_roundg (gk-1)
   case measure=>omega
   case rel=>exact⟨k+1,oM,by go_num,HX.o.1,HX.o.2⟩
  .obtain rfl:k=4:=oM;have k1:¬(((4:Nat):Int)<4):=de;have h20:=vt xs;have h1:=vu xs;have hsz:(prog.info? 297).map (·.size)=some (dsP xs).length:=by rw[h20];exact wJ
   have hsz2:(prog.info? 297).map (·.size)=some (dsP xs).toArray.size:=by rw[qXh,h20];exact wJ
   have r5:wr.rangeAt (w.heap.size+1) 0 (dsP xs):=zg hg;have g0:=(hu.block w.heap.size (zd g13) oM).trans g13;have hZl:Z.toArray.size=20:=HZ.o;have hth:wr.there w.heap.size 0 (dsP xs).toArray.size:=fun j hj=>by
    rw[za g0,zf g0,qxe (by rw[qXh,h20]at hj;omega)];exact⟨rfl,rfl⟩
   have hth2:wr.there w.heap.size 0 (dsP xs).length:=by rw[qXh]at hth;exact hth
   have hU:=hu3.trans hu;obtain⟨D,hD⟩:=qqe (dsP xs);rw[<-hD]at h20 h1 hsz hsz2 r5 hth hth2;have HD:=qqh hD;clear hD;have HF:=Y3 hth2 hsz hU;clear hx3 g3 g13 hu3 hxl hcl hcm hg hu hth2 hU h20 g0;go_wp2_with (first
    |(refine qYy rfl _ _ rfl _ _ rfl _ _ r5 underlying297 rfl hsz ?_)
    |(refine qZa rfl _ _ _ rfl w.heap.size 0 D.toArray rfl rfl hth hsz2 (qYn h1) ?_)
    |fail)
   exact qYp (zv rfl _ _ w.heap.size 0 D _ rfl (qYk _ _ _ _ HF.o.1) underlying297 rfl HF.o.2.1) rfl
    ⟨by rw[HD.o],zj (qxl _ w) ((HF.o.2.2.mono (S':=fun j=>j=w.heap.size+1\/j=w.heap.size) (fun _ _ h=> .inl h)).trans ((zo wr w.heap.size 0 D).mono (fun _ _ h=> .inr h))) (qXo _) (fun k e=>oM)⟩
theorem wW{P:Prop}(h:P:=by
 replace hz:=qqh hz;obtain⟨cx,hcx⟩:∃cx:Int,cx=if curB F O (base+an)=zB then 14 else 12:=⟨_,rfl⟩
 rw[<-hcx];have HCX:=qqh hcx;clear hcx;obtain⟨Z,hZ⟩:∃Z:List Value,Z=zL:=⟨_,rfl⟩
 have hal:=WE;rw[<-hZ];simp only[<-hZ]at hal;have HZZ:Hid (Z=zL/\Z.length=n1y/\Z.toArray.size=n1y/\(prog.info? n2y).map (·.size)=some Z.toArray.size/\(Z.toArray).all (·.oneCell')=true/\(prog.info? n2y).map (·.size)=some Z.length/\∀u∈Z,u.oneCell'=true):=⟨hZ,by rw[hZ];rfl,by rw[hZ];rfl,by rw[hZ];exact As,by rw[hZ];exact qR,by rw[hZ];exact As,by rw[hZ];exact wv⟩
 clear hZ;have hgA:((w.alloc (.cells Z.toArray n2y)).alloc (.cells Z.toArray n2y)).heap[w.heap.size]?=some (.cells Z.toArray n2y):=by rw[qxk _ _ _ oe];exact zc w _ rfl
 have hgB:((w.alloc (.cells Z.toArray n2y)).alloc (.cells Z.toArray n2y)).heap[w.heap.size+1]?=some (.cells Z.toArray n2y):=zc _ _ oe;have hu1:Upd (fun _=>False) w ((w.alloc (.cells Z.toArray n2y)).alloc (.cells Z.toArray n2y)):=((uur _ w).alloc _).alloc _;have hs1:((w.alloc (.cells Z.toArray n2y)).alloc (.cells Z.toArray n2y)).heap.size=w.heap.size+2:=oe;have hl1:=hl.keep hu1 id;have hN1:=hN.keep hu1 id;have hfl:=hd.good.fl;obtain⟨c0,c1,c2,-,c4,-⟩:=hl1.c;have hd1:Dv (fun j=>S j/\j≠w.heap.size/\j≠w.heap.size+1) ((w.alloc (.cells Z.toArray n2y)).alloc (.cells Z.toArray n2y)) b F O P:=
  (((hd.but (qXo _)).but (q:=w.heap.size+1) oM).keep hu1 (fun _ _ h=>h)).wide (fun j h=>⟨h.1.1,h.1.2,h.2⟩)
 have hn1:∀j,w.heap.size+2<=j->S j/\j≠w.heap.size/\j≠w.heap.size+1:=fun j hj=>⟨hn j oM,oM,oM⟩
 have HAS:Hid (S w.heap.size):=hn _ (qXo _);have hllt:=hl.lt;have HL:=Y8 hl1 hN1 hu1 hd1 hn1 hSl hSN hs1;clear hl hd hn hSl hN hSN hl1 hN1 hu1 hd1 hn1;go_enter q4y,q5y
 .have z1:decide ((an:Int)<0)=false:=oe;have z2:decide ((n:Int)<=(an:Int))=false:=by simp;omega
  go_wp2_with (first
   |(refine zS rfl _ rfl _ hal ?_)
   |fail)
  generalize (w.alloc (.cells Z.toArray n2y)).alloc (.cells Z.toArray n2y)=w1 at*;obtain⟨T,hT⟩:∃T:Nat->Prop,T=fun j=>S j/\j≠w.heap.size/\j≠w.heap.size+1:=⟨_,rfl⟩
  obtain⟨hl1,hN1,hu1,hd1,hn1,hSl,hSN,-⟩:=HL.o;have hTS:∀j,T j->S j:=fun j h=>by rw[hT]at h;exact h.1
  have hTA:¬T w.heap.size:=fun h=>by rw[hT]at h;exact h.2.1 rfl
  have hTA':∀j,T j->j≠w.heap.size:=fun j h e=>hTA (e▸h);have hTB:¬T (w.heap.size+1):=fun h=>by rw[hT]at h;exact h.2.2 rfl
  have hTl:¬T l:=fun h=>hSl (hTS l h);have hTN:¬T 0:=fun h=>hSN (hTS _ h);rw[<-hT]at hd1;replace hn1:∀j,w1.heap.size<=j->T j:=fun j hj=>by rw[hT];exact hn1 j oM
  have HT:=Y13 hTS hTA hTB hTl hTN hd1 hn1 hu1 hl1 hN1 hgA hgB hTA';have hl1lt:=hl1.lt;clear hT hTS hTA hTB hTl hTN hd1 hn1 hu1 hl1 hN1 hgA hgB hSl hSN hTA' hs1
  go_cut [7,8] (fun s7 s8 wx=>Re T b F O P (base+an) w1 s7 s8 wx)
  case first=>
   have e1:IntKind.i64.wrap ((base:Int)+(an:Int))=((base+an:Nat):Int):=qxu _ oM;refine qZb (S:=fun W=>W.cell? ⟨l,0,none⟩=some (.pointer (some ⟨b,0,none⟩))/\W.cell? ⟨l,1,none⟩=some (.int .i64 (base:Int))) kR (⟨by rw[qYh];exact c0,by rw[qYh];exact c1⟩) (fun hHeld=>?_);refine Wl.i [0,1,2,3,4,5,6,7,8,9] ?_;iterate 10 refine Wl.t hHeld ?_
   refine Wl.o ?_;refine qYw (rs:=[10,14]) kR oe ?_;refine qxb rfl (fun K hK=>?_) (qxb rfl (fun K hK=>?_) qxc)
   .go_simp
    refine(vM (HT.o.2.2.2.2.2.1.keep ((uur (fun _=>False) w1).drew) (fun _ _ h=>h)) (HT.o.2.2.2.2.2.2.1) (base+an) oM).mono ?_;rintro e w7 ⟨z2,cd2,rfl,hz2,hcd2,hz2l,hd7,hu7⟩;have HZ2:=Y2 hz2 hcd2;clear hz2 hcd2;refine hK.o _ _ (⟨hu7.jS hHeld.1 HT.o.2.2.2.1,hu7.jS hHeld.2 HT.o.2.2.2.1⟩) (fun hHeld2=>?_);clear hK K;refine Wl.i [11,12,13] ?_;iterate 3 refine Wl.t hHeld2 ?_
    refine Wl.o ?_;refine Wl.r 14 (fun K hK=>?_);go_simp
    show K _ (w7.alloc (.cells (bkC zB).toArray 60));have hg8:=zc w7 (.cells (bkC zB).toArray 60) rfl;have hu8:Upd (fun _=>False) w7 (w7.alloc (.cells (bkC zB).toArray 60)):=(uur _ _).alloc _;have hw67:w1.heap.size<=w7.heap.size:=hu7.size;have hd8:=(hd7.but (qXo _)).keep hu8 (fun _ _ h=>h);have hU8:Upd T w1 (w7.alloc (.cells (bkC zB).toArray 60)):=((uur _ w1).drew.trans hu7).trans (hu8.mono fE);refine hK.o _ _ (⟨hu8.jS hHeld2.1 id,hu8.jS hHeld2.2 id⟩) (fun hHeld3=>?_);clear hK K;generalize w7.heap.size=q at*;generalize w7.alloc (.cells (bkC zB).toArray 60)=w8 at*;refine Wl.r 15 (fun K hK=>?_);rw[if_pos oy];refine qZc _ _ _ rfl _ _ (List.toArray _) rfl rfl oU (by rw[zn _ hz2l];exact zF) (qYn (zu _)) ?_;simp only[Act.put,qXd];refine hK.o _ _ (⟨zK hHeld3.1 oM,zK hHeld3.2 oM⟩) (fun hHeld4=>?_);clear hK K;refine Wl.r 16 (fun K hK=>?_);go_simp
    refine hK.o _ _ (hHeld4) (fun _=>?_);clear hK K;refine Wl.d ?_;clear hHeld4 e1;go_wp2_with fail
    go_meet
    case rel=>exact⟨q,z2,cd2,rfl,rfl,wU hg8 zH hz2l,hw67,HZ2.o.1,HZ2.o.2,hz2l,hd8.keep (zo w8 q 0 (bkC z2)) (fun j h e=>h.2 e),hU8.trans ((zo w8 q 0 (bkC z2)).mono (fun j _ e=>e▸HT.o.2.2.2.2.2.2.1 _ hw67))⟩
   .go_simp
    show K _ (w1.drew.alloc (.cells (bkC zB).toArray 60));have hg7:(w1.drew.alloc (.cells (bkC zB).toArray 60)).heap[w1.heap.size]?=some (.cells (bkC zB).toArray 60):=zc w1.drew _ rfl;have hu7a:Upd (fun _=>False) w1 (w1.drew.alloc (.cells (bkC zB).toArray 60)):=((uur _ w1).drew).alloc _;have hd7a:Dv (fun j=>T j/\j≠w1.heap.size) (w1.drew.alloc (.cells (bkC zB).toArray 60)) b F O P:=(HT.o.2.2.2.2.2.1.but (qXo _)).keep hu7a (fun _ _ h=>h);have hs7a:(w1.drew.alloc (.cells (bkC zB).toArray 60)).heap.size=w1.heap.size+1:=oe;refine hK.o _ _ (⟨hu7a.jS c0 id,hu7a.jS c1 id⟩) (fun hHeld2=>?_);clear hK K;generalize w1.drew.alloc (.cells (bkC zB).toArray 60)=w7a at*;refine Wl.r 10 (fun K hK=>?_);go_simp
    refine(vM (hd7a) (fun j hj=>⟨HT.o.2.2.2.2.2.2.1 j oM,oM⟩) (base+an) oM).mono ?_;rintro e w7 ⟨z2,cd2,rfl,hz2,hcd2,hz2l,hd7,hu7⟩;have HZ2:=Y2 hz2 hcd2;clear hz2 hcd2;have hg8:=(hu7.block w1.heap.size (zd hg7) (fun h=>h.2 rfl)).trans hg7;refine hK.o _ _ (⟨hu7.jS hHeld2.1 (fun h=>HT.o.2.2.2.1 h.1),hu7.jS hHeld2.2 (fun h=>HT.o.2.2.2.1 h.1)⟩) (fun hHeld3=>?_);clear hK K;refine Wl.i [11,12,13] ?_;iterate 3 refine Wl.t hHeld3 ?_
    refine Wl.o ?_;refine Wl.r 15 (fun K hK=>?_);rw[if_pos oy];refine qZc _ _ _ rfl _ _ (List.toArray _) rfl rfl oU (by rw[zn _ hz2l];exact zF) (qYn (zu _)) ?_;simp only[Act.put,qXd];refine hK.o _ _ (⟨zK hHeld3.1 oM,zK hHeld3.2 oM⟩) (fun hHeld4=>?_);clear hK K;refine Wl.r 16 (fun K hK=>?_);go_simp
    refine hK.o _ _ (hHeld4) (fun _=>?_);clear hK K;refine Wl.d ?_;clear hHeld4 e1;go_wp2_with fail
    go_meet
    case rel=>exact⟨w1.heap.size,z2,cd2,rfl,rfl,wU hg8 zH hz2l,qXo _,HZ2.o.1,HZ2.o.2,hz2l,hd7.keep (zo w7 w1.heap.size 0 (bkC z2)) (fun j h e=>h.2 e),((hu7a.mono fE).trans (hu7.mono (fun j _ h=>h.1))).trans ((zo w7 w1.heap.size 0 (bkC z2)).mono (fun j _ e=>e▸HT.o.2.2.2.2.2.2.1 _ (qXo _)))⟩
  case rest=>
   obtain⟨q,v,cd2,rfl,rfl,hgq,hq,hv,hcd2,hvl,hdx,hux⟩:=hcut;have hgA:=(hux.block _ (zd HT.o.2.2.2.2.2.2.2.2.2.2.1) HT.o.2.1).trans HT.o.2.2.2.2.2.2.2.2.2.2.1;have hgB:=(hux.block _ (zd HT.o.2.2.2.2.2.2.2.2.2.2.2.1) HT.o.2.2.1).trans HT.o.2.2.2.2.2.2.2.2.2.2.2.1;have hlx:=HT.o.2.2.2.2.2.2.2.2.1.keep hux HT.o.2.2.2.1;have hNx:=HT.o.2.2.2.2.2.2.2.2.2.1.keep hux HT.o.2.2.2.2.1;have hUx:Upd S w wc:=(HT.o.2.2.2.2.2.2.2.1.mono fE).trans (hux.mono (fun j _ h=>HT.o.1 j h));have hdT:Dv T wc b F O P.tail:=hdx.wide (fun j h=>h.1);have rq:=zg hgq;have c4':=hlx.c.2.2.2.2.1;have HQ:=Y9 hdT hUx hlx hNx hgA hgB hvl hv hcd2;have hqlt:=zd hgq;have hAlt:=zd hgA;have hBlt:=zd hgB;have hllx:=hlx.lt;have rB:=zg hgB;have tA:=zD (n:=n1y) hgA ow;clear hgq hq hv hcd2 hvl hdx hux hlx hNx hUx hdT hgA hgB c0 c1 c2 c4;have e0:cd2=0:=by rw[HQ.o.2.2.2.2.2.2.2.2,if_neg hf]
   have ez:v=curB F O (base+an):=by rw[HQ.o.2.2.2.2.2.2.2.1,if_neg hf]
   subst e0;have hq0:∀W,(Op.equalIn 10000 60 (.agg (bkC v).toArray) (.agg #[.int .u8 0,.int .u8 0,.int .u8 0,.int .u8 0,.int .u8 0,.int .u8 0,.int .u8 0,.int .u8 0,.int .u8 0,.int .u8 0,.int .u8 0,.int .u8 0,.int .u8 0,.int .u8 0,.int .u8 0,.int .u8 0,.int .u8 0,.int .u8 0,.int .u8 0,.int .u8 0,.int .u8 0,.int .u8 0,.int .u8 0,.int .u8 0,.int .u8 0,.int .u8 0,.int .u8 0,.int .u8 0,.int .u8 0,.int .u8 0,.int .u8 0,.int .u8 0,.int .u8 0,.int .u8 0,.int .u8 0,.int .u8 0,.int .u8 0,.int .u8 0,.int .u8 0,.int .u8 0,.int .u8 0,.int .u8 0,.int .u8 0,.int .u8 0,.int .u8 0,.int .u8 0,.int .u8 0,.int .u8 0,.int .u8 0,.int .u8 0,.int .u8 0,.int .u8 0,.int .u8 0,.int .u8 0,.int .u8 0,.int .u8 0,.int .u8 0,.int .u8 0,.int .u8 0,.int .u8 0,.int .u8 0,.int .u8 0,.int .u8 0,.int .u8 0])).run prog W=.ok (v==zB) W:=Vk v zB HQ.o.2.2.2.2.2.2.1 zH;by_cases h0:v=zB
   .have hb0:(v==zB)=true:=by simpa using h0
    have HD:Hid (Dv (fun j=>T j/\j≠w.heap.size) wc b F O P.tail/\Upd S w wc):=⟨(HQ.o.1).wide (fun j h=>⟨h,HT.o.2.2.2.2.2.2.2.2.2.2.2.2 j h⟩),HQ.o.2.1⟩
    obtain rfl:cx=14:=HCX.o.trans (if_pos (ez▸h0));clear h0 ez;go_wp2_with (first
     |(refine qYy rfl _ _ rfl _ _ rfl _ _ rq underlying60 rfl (zq _ HQ.o.2.2.2.2.2.2.1) ?_)
     |(refine qYy rfl _ _ rfl _ _ rfl _ _ rB q6y rfl HZZ.o.2.2.2.2.2.1 ?_)
     |(refine qZa rfl _ _ _ rfl _ _ Z.toArray rfl rfl (by rw[HZZ.o.2.2.1];exact tA) HZZ.o.2.2.2.1 HZZ.o.2.2.2.2.1 ?_)
     |fail)
    refine qYp (zp rfl _ _ w.heap.size 0 Z _ rfl (qYk _ _ _ _ jG) q6y rfl HZZ.o.2.2.2.2.2.1) rfl ?_;exact⟨rfl,HD.o.1.keep (zo _ w.heap.size 0 _) (fun j h e=>h.2 e)|>.wide (fun j h=>HT.o.1 j h.1),HD.o.2.trans ((zo _ w.heap.size 0 _).mono (fun j _ e=>e▸HAS.o))⟩
   .have hb0:(v==zB)=false:=by simpa using h0
    have HS:Hid (sealB v≠v):=by show _≠_;rcases hz.out with h|h;exact absurd (ez.trans h) h0;rw[ez];exact h
    obtain rfl:cx=12:=HCX.o.trans (if_neg (ez▸h0));clear h0 ez;go_wp2_with (first
     |(refine qYy rfl _ _ rfl _ _ rfl _ _ rq underlying60 rfl (zq _ HQ.o.2.2.2.2.2.2.1) ?_)
     |fail)
    clear hq0 rB tA;obtain⟨wd,hwd⟩:∃wd:World,wd=wc:=⟨_,rfl⟩
    go_cut [9,8] (fun s9 s8 wx=>zaG n2y wd s9 s8 wx)
    case first=>
     subst hwd;refine qZb (S:=fun W=>W.cell? ⟨l,4,none⟩=some (.func (.func n7y) #[] #[])/\W.rangeAt q 0 (bkC v)) kR (⟨by rw[qYh];exact c4',by rw[qYj];exact rq⟩) (fun hHeld=>?_);refine Wl.i [0,1,2,3] ?_;iterate 4 refine Wl.t hHeld ?_
     refine Wl.o ?_;refine Wl.l 4 (fun w h=>h.2) underlying60 (zq _ HQ.o.2.2.2.2.2.2.1) hHeld ?_;refine qYw (rs:=[5,9]) kR oe ?_;refine qxb rfl (fun K' hK=>?_) (qxb rfl (fun K' hK=>?_) qxc)
     .go_simp
      refine(q8y (bkC v) (zq _ HQ.o.2.2.2.2.2.2.1) n7y #[] (fun _ _=>rfl) (fun rs cd=>cd≠0/\rs.length=n1y/\∀u∈rs,u.oneCell'=true) (fun ys cd h=>h.2) (fun W hW=>(q9y ((HQ.o.2.2.2.1.keep ((uur (fun _=>False) _).drew) id).below hW) v HQ.o.2.2.2.2.2.2.1 HS.o).mono (fun e w' h=>VX ⟨HZZ.o.2.1,HZZ.o.2.2.2.2.2.2⟩ (by rw[HZZ.o.1];exact h)))).mono ?_;rintro e w3 ⟨rs,cd,hR,rfl,hb3⟩;have HR:=qqh hR;clear hR;refine hK.o _ _ (⟨(uuo (S:=fun _=>False) hb3).jS hHeld.1 id,Below.range hb3 hHeld.2⟩) (fun hHeld2=>?_);clear hK K';refine Wl.i [6,7,8] ?_;iterate 3 refine Wl.t hHeld2 ?_
      refine Wl.o ?_;refine qYw (rs:=[9]) kR oe ?_;refine qxb rfl (fun K' hK=>?_) qxc;go_simp
      show K' _ (w3.alloc (.cells zL.toArray n2y));rw[<-HZZ.o.1];have hg4:=zc w3 (.cells Z.toArray n2y) rfl;have hu4:Upd (fun _=>False) w3 (w3.alloc (.cells Z.toArray n2y)):=(uur _ _).alloc _;have hsz4:wd.heap.size<=w3.heap.size:=hb3.size;have hB4:Below wd.heap.size wd (w3.alloc (.cells Z.toArray n2y)):=(yv hb3).alloc hsz4 _;refine hK.o _ _ (⟨hu4.jS hHeld2.1 id,hu4.range hHeld2.2 id⟩) (fun hHeld3=>?_);clear hK K';generalize w3.heap.size=p at*;generalize w3.alloc (.cells Z.toArray n2y)=w4 at*;refine qYw (rs:=[10]) kR oe ?_;refine qxb rfl (fun K' hK=>?_) qxc;rw[if_pos oy];refine qZc _ _ _ rfl _ _ (List.toArray _) rfl rfl jI oV (qYn HR.o.2.2) ?_;simp only[Act.put,qXd];refine hK.o _ _ (⟨zK hHeld3.1 oM,(zo w4 p 0 rs).range hHeld3.2 oM⟩) (fun hHeld4=>?_);clear hK K';refine qYw (rs:=[11]) kR oe ?_;refine qxb rfl (fun K' hK=>?_) qxc;go_simp
      refine hK.o _ _ (hHeld4) (fun _=>?_);clear hK K';refine Wl.d ?_;clear hHeld4;go_wp2_with fail
      go_meet
      case rel=>exact⟨p,rs,cd,rfl,rfl,re hg4 (by rw[HR.o.2.1];exact HZZ.o.2.2.1),oM,zj hB4 (zo w4 p 0 rs) (qXo _) (fun k e=>oM),HR.o.1⟩
     .go_simp
      show K' _ (wd.drew.alloc (.cells zL.toArray n2y));rw[<-HZZ.o.1];have hg2:(wd.drew.alloc (.cells Z.toArray n2y)).heap[wd.heap.size]?=some (.cells Z.toArray n2y):=zc wd.drew _ rfl;have hu2:Upd (fun _=>False) wd.drew (wd.drew.alloc (.cells Z.toArray n2y)):=(uur _ _).alloc _;have hB2:Below wd.heap.size wd (wd.drew.alloc (.cells Z.toArray n2y)):=(zQ (qxl _ wd) 1).alloc (qXo _) _;have hN2:=(HQ.o.2.2.2.1.keep ((uur (fun _=>False) _).drew) id).keep hu2 id;refine hK.o _ _ (⟨hu2.jS hHeld.1 id,hu2.range hHeld.2 id⟩) (fun hHeld2=>?_);clear hK K';generalize wd.drew.alloc (.cells Z.toArray n2y)=w2 at*;refine qYw (rs:=[5]) kR oe ?_;refine qxb rfl (fun K' hK=>?_) qxc;go_simp
      refine(q8y (bkC v) (zq _ HQ.o.2.2.2.2.2.2.1) n7y #[] (fun _ _=>rfl) (fun rs cd=>cd≠0/\rs.length=n1y/\∀u∈rs,u.oneCell'=true) (fun ys cd h=>h.2) (fun W hW=>(q9y (hN2.below hW) v HQ.o.2.2.2.2.2.2.1 HS.o).mono (fun e w' h=>VX ⟨HZZ.o.2.1,HZZ.o.2.2.2.2.2.2⟩ (by rw[HZZ.o.1];exact h)))).mono ?_;rintro e w3 ⟨rs,cd,hR,rfl,hb3⟩;have HR:=qqh hR;clear hR;have hg4:=(hb3.block wd.heap.size (zd hg2)).trans hg2;have hB4:Below wd.heap.size wd w3:=hB2.trans (hb3.mono hB2.size);refine hK.o _ _ (⟨(uuo (S:=fun _=>False) hb3).jS hHeld2.1 id,Below.range hb3 hHeld2.2⟩) (fun hHeld3=>?_);clear hK K';refine Wl.i [6,7,8] ?_;iterate 3 refine Wl.t hHeld3 ?_
      refine Wl.o ?_;refine qYw (rs:=[10]) kR oe ?_;refine qxb rfl (fun K' hK=>?_) qxc;rw[if_pos oy];refine qZc _ _ _ rfl _ _ (List.toArray _) rfl rfl jI oV (qYn HR.o.2.2) ?_;simp only[Act.put,qXd];refine hK.o _ _ (⟨zK hHeld3.1 oM,(zo w3 wd.heap.size 0 rs).range hHeld3.2 oM⟩) (fun hHeld4=>?_);clear hK K';refine qYw (rs:=[11]) kR oe ?_;refine qxb rfl (fun K' hK=>?_) qxc;go_simp
      refine hK.o _ _ (hHeld4) (fun _=>?_);clear hK K';refine Wl.d ?_;clear hHeld4;go_wp2_with fail
      go_meet
      case rel=>exact⟨wd.heap.size,rs,cd,rfl,rfl,re hg4 (by rw[HR.o.2.1];exact HZZ.o.2.2.1),qXo _,zj hB4 (zo w3 wd.heap.size 0 rs) (qXo _) (fun k e=>oM),HR.o.1⟩
    case rest=>
     subst hwd;obtain⟨p,rs,cd3,rfl,rfl,hgp,hp,hbx,hno⟩:=hcut;have hbs:=hbx.size;have hgA:=(hbx.block _ hAlt).trans HQ.o.2.2.2.2.1;have hgB:=(hbx.block _ hBlt).trans HQ.o.2.2.2.2.2.1;have hd2:=HQ.o.1.below hbx;have hU2:Upd S w wc:=HQ.o.2.1.trans ((uuo (S:=fun _=>False) hbx).mono fE);have hl2:=HQ.o.2.2.1.below hbx;have rp:=zg hgp;have rB:=zg hgB;have tA:=zD (n:=n1y) hgA ow;have HZ:=Y5 hd2 hU2 hl2 hgA hgB;have hplt:=zd hgp;clear hgp hp hbx hgA hgB hd2 hU2 hl2 rq c4';have hc0:(cd3==0)=false:=by simpa using hno
     have HD:Hid (Dv (fun j=>T j/\j≠w.heap.size) wc b F O P.tail/\Upd S w wc):=⟨HZ.o.1.wide (fun j h=>⟨h,HT.o.2.2.2.2.2.2.2.2.2.2.2.2 j h⟩),HZ.o.2.1⟩
     clear hno;go_wp2_with (first
      |(refine qYy rfl _ _ rfl _ _ rfl _ _ rB q6y rfl HZZ.o.2.2.2.2.2.1 ?_)
      |(refine qZa rfl _ _ _ rfl _ _ Z.toArray rfl rfl (by rw[HZZ.o.2.2.1];exact tA) HZZ.o.2.2.2.1 HZZ.o.2.2.2.2.1 ?_)
      |fail)
     refine qYp (zp rfl _ _ w.heap.size 0 Z _ rfl (qYk _ _ _ _ jG) q6y rfl HZZ.o.2.2.2.2.2.1) rfl ?_;exact⟨rfl,HD.o.1.keep (zo _ w.heap.size 0 _) (fun j h e=>h.2 e)|>.wide (fun j h=>HT.o.1 j h.1),HD.o.2.trans ((zo _ w.heap.size 0 _).mono (fun j _ e=>e▸HAS.o))⟩):P:=h
theorem wX{P:Prop}(h:P:=by
 have hfl:=hd.good.fl;obtain⟨-,-,c2,-⟩:=hl.c;have H:=Y7 hl hd hn hSl hN hSN hz;clear hl hd hn hSl hN hSN hz;go_enter zaH,zaI
 go_wp2
 go_step3
 go_wp2
 go_step3
 go_wp2
 go_loopg[4,5,15] n (fun gk s4 s5 s15 wr=>∃i:Nat,i+gk=n/\s15=.int .i64 i/\s5=.int .i64 0/\s4=.slice none 0 0/\Dv S wr b F O []/\Upd S w wr)
 case atStart=>exact⟨0,oM,rfl,rfl,rfl,H.o.2.1,uur _ _⟩
 case round=>
  obtain⟨i,hi,rfl,rfl,rfl,hd,hU⟩:=hrel;obtain⟨hl,-,hn,hSl,hN,hSN,hz⟩:=H.o;by_cases hlt:i<n
  .have HG:=qqh (zaJ (hl.keep hU hSl) hd (fun j hj=>hn j (qXq hU.size hj)) hSl (hN.keep hU hSN) hSN hbn de hlt ((hz i hlt).imp_right And.right));have HU:=qqh hU;have k1:(i:Int)<(n:Int):=oM;clear hl hd hn hSl hN hSN hz hU;go_wp2_with fail
   refine HG.o.mono ?_;rintro e w9 ⟨rfl,hd9,hU9⟩;have H9:=Y2 hd9 (HU.o.trans hU9);clear hd9 hU9 HG;by_cases h0:curB F O (base+i)=zB
   .rw [if_pos h0];clear h0;generalize hZZ:zL=Z at*;have hsz:Hid ((prog.info? n2y).map (·.size)=some Z.length/\Z.length=n1y/\∀u∈Z,u.oneCell'=true):=by subst hZZ;exact⟨As,rfl,wv⟩
    replace hZZ:=qqh hZZ;go_wp2_with (first
     |(refine zk rfl _ _ _ rfl _ _ _ rfl rfl (by rw[hsz.out.2.1];rfl) hsz.out.1 hsz.out.2.2 ?_)
     |fail)
    obtain⟨hd9,hU9⟩:=H9.o;have hua:Upd (fun _=>False) w9 (w9.alloc (.cells Z.toArray n2y)):=(uur _ _).alloc _;have hd10:=hd9.new hua;have hU10:=hU9.trans (hua.mono fE);generalize w9.alloc (.cells Z.toArray n2y)=w10 at*;go_roundg (gk-1)
    case measure=>omega
    case rel=>exact⟨i+1,oM,by go_num,rfl,rfl,hd10,hU10⟩
   .have hbd:bad:=((H.o.2.2.2.2.2.2 i hlt).resolve_left h0).1;rw[if_neg h0];clear h0;generalize hZZ:zL=Z at*;have hsz:Hid ((prog.info? n2y).map (·.size)=some Z.length/\Z.length=n1y/\∀u∈Z,u.oneCell'=true):=by subst hZZ;exact⟨As,rfl,wv⟩
    replace hZZ:=qqh hZZ;go_wp2_with (first
     |(refine zk rfl _ _ _ rfl _ _ _ rfl rfl (by rw[hsz.out.2.1];rfl) hsz.out.1 hsz.out.2.2 ?_)
     |fail)
    try rw[qxq]
    obtain⟨hd9,hU9⟩:=H9.o;have hua:Upd (fun _=>False) w9 (w9.alloc (.cells Z.toArray n2y)):=(uur _ _).alloc _;have hd10:=hd9.new hua;have hU10:=hU9.trans (hua.mono fE);generalize w9.alloc (.cells Z.toArray n2y)=w10 at*;go_ret2
    exact⟨12,.inr ⟨hbd,rfl⟩,rfl,hd10,hU10⟩
  .obtain rfl:i=n:=oM;have k1:¬((i:Int)<(i:Int)):=oM;have HE:=Y2 hd hU;clear hl hd hn hSl hN hSN hz hU;go_wp2_with fail
   try rw[qxq]
   go_ret2
   exact⟨0,.inl rfl,rfl,HE.o.1,HE.o.2⟩):P:=h
def zaF(S:Nat->Prop)(w:World)(b:Nat)(F:List Bk)(O:List (Nat×Bk))(P:List Int)(zs:List Value)(cd:Int)(e:Ending)(w':World):Prop:=
 e=.returned (.tuple #[.agg zs.toArray,.int .i64 cd])/\Dv S w' b F O P/\Upd S w w'
def zed(S:Nat->Prop)(w:World)(b:Nat)(F:List Bk)(O:List (Nat×Bk))(cd:Int)(e:Ending)(w':World):Prop:=
 e=.returned (.tuple #[.slice none 0 0,.int .i64 cd])/\Dv S w' b F O []/\Upd S w w'
def zaG(t:TypeId)(w2:World)(s9 s8:Value)(wx:World):Prop:=
 ∃q rs cd,s9=.pointer (some ⟨q,0,none⟩)/\s8=.int .i64 cd/\wx.heap[q]?=some (.cells (rs:List Value).toArray t (0,0))/\w2.heap.size<=q/\Below w2.heap.size w2 wx/\cd≠0
theorem VX{w w':World}{zs:List Value}{n:Nat}(hz:zs.length=n/\∀u∈zs,u.oneCell'=true){e:Ending}(hg:yo w false [] zs 13 e w'):
  yq w (fun rs c=>c≠0/\rs.length=n/\∀u∈rs,u.oneCell'=true) e w':=by
 obtain⟨⟨rs,-,h2,rfl⟩,hb⟩:=hg;exact⟨rs,13,⟨de,by rw[h2 rfl];exact hz⟩,rfl,hb⟩
theorem re{w:World}{p:Nat}{cs:Array Value}{vs:List Value}{t:TypeId}(h:w.heap[p]?=some (.cells cs t (0,0)))(hl:cs.size=vs.length):(w.setCells p 0 vs).heap[p]?=some (.cells vs.toArray t (0,0)):=by
 obtain⟨cur',h2,h3,h4⟩:=zy vs 0 w p _ t (0,0) h;rw[h2];have:cur'=vs.toArray:=by
  apply qxd
  intro k;have e:vs.toArray[k]?=vs[k]?:=oe;rw[h4 k,e,hl];by_cases hk:k<vs.length
  .rw [if_pos ⟨oM,oM,oM⟩];rfl
  .rw [if_neg oM,qxf oM,qyk oM]
 rw[this]
def Tz(bad:Prop)(S:Nat->Prop)(w:World)(b:Nat)(F:List Bk)(O:List (Nat×Bk))(e:Ending)(w':World):Prop:=∃cd,(cd=0\/bad/\cd=12)/\zed S w b F O cd e w'
namespace fLogYI
def zL:List Value:=[Value.int .i64 0,Value.int .i64 0,Value.int .i64 0,Value.int .i64 0]
theorem qR:(zL.toArray).all (·.oneCell')=true:=by simp[zL,Value.oneCell']
theorem wv:∀u∈zL,u.oneCell'=true:=by intro u hu;simp[zL]at hu;subst hu;rfl
theorem WE(w:World):(Instr.alloc 117 true (.tuple #[])).run prog w=.ok (.pointer (some ⟨w.heap.size,0,none⟩)) (w.alloc (.cells zL.toArray 117)):=by
 kernel_rfl
end fLogYI
namespace fLogYI
abbrev n1y:Nat:=4
abbrev n2y:Nat:=117
theorem As:type_of% @uS:= @uS
theorem q4y:type_of% @func182:= @func182
theorem q5y:type_of% @ntmps182:= @ntmps182
theorem q6y:type_of% @underlying117:= @underlying117
abbrev n7y:Nat:=149
theorem q8y:type_of% @VM:= @VM
theorem q9y:type_of% @VG:= @VG
end fLogYI
open fLogYI in
theorem VY{S:Nat->Prop}{w:World}{l b base n fi:Nat}{F:List Bk}{O:List (Nat×Bk)}{P:List Int}(hl:LogI w l b base n fi)(hd:Dv S w b F O P)(hn:∀j,w.heap.size<=j->S j)(hSl:¬S l)(hN:Nib w)
  (hSN:¬S 0) (hbn:base+n<=F.length) (hf:¬fate P=1) {an:Nat} (hann:an<n) (hz:curB F O (base+an)=zB\/sealB (curB F O (base+an))≠curB F O (base+an)):
  Calls prog 182 #[.pointer (some ⟨l,0,none⟩),.int .i64 (an:Int)] w (zaF S w b F O P.tail zL (if curB F O (base+an)=zB then 14 else 12)):=wW
namespace fLogYI
theorem zaH:type_of% @func159:= @func159
theorem zaI:type_of% @ntmps159:= @ntmps159
theorem zaJ:type_of% @VY:= @VY
end fLogYI
open fLogYI in
theorem En{bad:Prop}{S:Nat->Prop}{w:World}{l b base n fi:Nat}{F:List Bk}{O:List (Nat×Bk)}(hl:LogI w l b base n fi)(hd:Dv S w b F O [])(hn:∀j,w.heap.size<=j->S j)(hSl:¬S l)(hN:Nib w)
  (hSN:¬S 0) (hbn:base+n<=F.length) (hz:∀i,i<n->curB F O (base+i)=zB\/bad/\sealB (curB F O (base+i))≠curB F O (base+i)):
  Calls prog 159 #[.pointer (some ⟨l,0,none⟩)] w (Tz bad S w b F O):=wX
namespace fLogYC
def zL:List Value:=[Value.int .i64 0,Value.int .i64 0,Value.int .i64 0,Value.int .i64 0,Value.int .i64 0,Value.int .i64 0]
theorem qR:(zL.toArray).all (·.oneCell')=true:=by simp[zL,Value.oneCell']
theorem wv:∀u∈zL,u.oneCell'=true:=by intro u hu;simp[zL]at hu;subst hu;rfl
theorem WE(w:World):(Instr.alloc 187 true (.tuple #[])).run prog w=.ok (.pointer (some ⟨w.heap.size,0,none⟩)) (w.alloc (.cells zL.toArray 187)):=by
 kernel_rfl
end fLogYC
namespace fLogYC
abbrev n1y:Nat:=6
abbrev n2y:Nat:=187
theorem As:type_of% @ZD:= @ZD
theorem q4y:type_of% @func113:= @func113
theorem q5y:type_of% @ntmps113:= @ntmps113
theorem q6y:type_of% @underlying187:= @underlying187
abbrev n7y:Nat:=153
theorem q8y:type_of% @VN:= @VN
theorem q9y:type_of% @VI:= @VI
end fLogYC
open fLogYC in
theorem VZ{S:Nat->Prop}{w:World}{l b base n fi:Nat}{F:List Bk}{O:List (Nat×Bk)}{P:List Int}(hl:LogC w l b base n fi)(hd:Dv S w b F O P)(hn:∀j,w.heap.size<=j->S j)(hSl:¬S l)(hN:Nib w)
  (hSN:¬S 0) (hbn:base+n<=F.length) (hf:¬fate P=1) {an:Nat} (hann:an<n) (hz:curB F O (base+an)=zB\/sealB (curB F O (base+an))≠curB F O (base+an)):
  Calls prog 113 #[.pointer (some ⟨l,0,none⟩),.int .i64 (an:Int)] w (zaF S w b F O P.tail zL (if curB F O (base+an)=zB then 14 else 12)):=wW
namespace fLogYC
theorem zaH:type_of% @func119:= @func119
theorem zaI:type_of% @ntmps119:= @ntmps119
theorem zaJ:type_of% @VZ:= @VZ
end fLogYC
open fLogYC in
theorem Eo{bad:Prop}{S:Nat->Prop}{w:World}{l b base n fi:Nat}{F:List Bk}{O:List (Nat×Bk)}(hl:LogC w l b base n fi)(hd:Dv S w b F O [])(hn:∀j,w.heap.size<=j->S j)(hSl:¬S l)(hN:Nib w)
  (hSN:¬S 0) (hbn:base+n<=F.length) (hz:∀i,i<n->curB F O (base+i)=zB\/bad/\sealB (curB F O (base+i))≠curB F O (base+i)):
  Calls prog 119 #[.pointer (some ⟨l,0,none⟩)] w (Tz bad S w b F O):=wX
namespace fLogYF
def zL:List Value:=[Value.int .i64 0,Value.int .i64 0,Value.int .i64 0,Value.int .i64 0,Value.int .i64 0,Value.int .i64 0,Value.int .i64 0,Value.int .i64 0,Value.int .i64 0,Value.int .i64 0,Value.int .i64 0,Value.int .i64 0,Value.int .i64 0]
theorem qR:(zL.toArray).all (·.oneCell')=true:=by simp[zL,Value.oneCell']
theorem wv:∀u∈zL,u.oneCell'=true:=by intro u hu;simp[zL]at hu;subst hu;rfl
theorem WE(w:World):(Instr.alloc 192 true (.tuple #[])).run prog w=.ok (.pointer (some ⟨w.heap.size,0,none⟩)) (w.alloc (.cells zL.toArray 192)):=by
 kernel_rfl
end fLogYF
namespace fLogYF
abbrev n1y:Nat:=13
abbrev n2y:Nat:=192
theorem As:type_of% @ZE:= @ZE
theorem q4y:type_of% @func114:= @func114
theorem q5y:type_of% @ntmps114:= @ntmps114
theorem q6y:type_of% @underlying192:= @underlying192
abbrev n7y:Nat:=157
theorem q8y:type_of% @VO:= @VO
theorem q9y:type_of% @VK:= @VK
end fLogYF
open fLogYF in
theorem Ua{S:Nat->Prop}{w:World}{l b base n fi:Nat}{F:List Bk}{O:List (Nat×Bk)}{P:List Int}(hl:LogF w l b base n fi)(hd:Dv S w b F O P)(hn:∀j,w.heap.size<=j->S j)(hSl:¬S l)(hN:Nib w)
  (hSN:¬S 0) (hbn:base+n<=F.length) (hf:¬fate P=1) {an:Nat} (hann:an<n) (hz:curB F O (base+an)=zB\/sealB (curB F O (base+an))≠curB F O (base+an)):
  Calls prog 114 #[.pointer (some ⟨l,0,none⟩),.int .i64 (an:Int)] w (zaF S w b F O P.tail zL (if curB F O (base+an)=zB then 14 else 12)):=wW
namespace fLogYF
theorem zaH:type_of% @func226:= @func226
theorem zaI:type_of% @ntmps226:= @ntmps226
theorem zaJ:type_of% @Ua:= @Ua
end fLogYF
open fLogYF in
theorem Ep{bad:Prop}{S:Nat->Prop}{w:World}{l b base n fi:Nat}{F:List Bk}{O:List (Nat×Bk)}(hl:LogF w l b base n fi)(hd:Dv S w b F O [])(hn:∀j,w.heap.size<=j->S j)(hSl:¬S l)(hN:Nib w)
  (hSN:¬S 0) (hbn:base+n<=F.length) (hz:∀i,i<n->curB F O (base+i)=zB\/bad/\sealB (curB F O (base+i))≠curB F O (base+i)):
  Calls prog 226 #[.pointer (some ⟨l,0,none⟩)] w (Tz bad S w b F O):=wX
structure LgsY(bad:Prop)(S:Nat->Prop)(w:World)(li lc lf d base k:Nat)(F:List Bk)(O:List (Nat×Bk)):Prop where
 i:LogI w li d base k 150
 c:LogC w lc d (base+k) k 154
 f:LogF w lf d (base+k+k) k 158
 dv:Dv S w d F O []
 fl:base+k+k+k<=F.length
 nS:∀j,w.heap.size<=j->S j
 iS:¬S li
 cS:¬S lc
 fS:¬S lf
 nib:Nib w
 nibS:¬S 0
 zs:∀j,j<k+k+k->curB F O (base+j)=zB\/bad/\sealB (curB F O (base+j))≠curB F O (base+j)
section
variable{bad:Prop}{S:Nat->Prop}{w w':World}{li lc lf d base k:Nat}{F:List Bk}{O:List (Nat×Bk)}
theorem LgsY.turn(h:LgsY bad S w li lc lf d base k F O)(hu:Upd S w w')(hd:Dv S w' d F O []):LgsY bad S w' li lc lf d base k F O:=
 {h with i:=h.i.keep hu h.iS,c:=h.c.keep hu h.cS,f:=h.f.keep hu h.fS,dv:=hd,nS:=fun j hj=>h.nS j (qXq hu.size hj),nib:=h.nib.keep hu h.nibS}
theorem LgsY.allI(h:LgsY bad S w li lc lf d base k F O):Calls prog 159 #[.pointer (some ⟨li,0,none⟩)] w (Tz bad S w d F O):=
 En h.i h.dv h.nS h.iS h.nib h.nibS (by have:=h.fl;omega) (fun i hi=>h.zs i oM)
theorem LgsY.allC(h:LgsY bad S w li lc lf d base k F O):Calls prog 119 #[.pointer (some ⟨lc,0,none⟩)] w (Tz bad S w d F O):=
 Eo h.c h.dv h.nS h.cS h.nib h.nibS (by have:=h.fl;omega) (fun i hi=>by have:=h.zs (k+i) oM;rwa[<-qXl]at this)
theorem LgsY.allF(h:LgsY bad S w li lc lf d base k F O):Calls prog 226 #[.pointer (some ⟨lf,0,none⟩)] w (Tz bad S w d F O):=
 Ep h.f h.dv h.nS h.fS h.nib h.nibS (by have:=h.fl;omega) (fun i hi=>by have:=h.zs (k+k+i) oM;rwa[<-qXl,<-qXl]at this)
theorem LgsY.box(h:LgsY bad S w li lc lf d base k F O)(hu:Upd (fun _=>False) w w'):LgsY bad (fun j=>(S j/\j<w.heap.size)\/w'.heap.size<=j) w' li lc lf d base k F O where
 i:=h.i.keep hu id
 c:=h.c.keep hu id
 f:=h.f.keep hu id
 dv:=(h.dv.ku (T:=fun j=>S j/\j<w.heap.size) (fun j h1 h2=>⟨h1,h2⟩)).keep hu (fun _ _ h=>h)|>.wide (fun j h=> .inl h)
 fl:=h.fl
 nS:=fun j hj=> .inr hj
 iS:=fun h'=>by have:=h.i.lt;have:=hu.size;rcases h' with h'|h';exact h.iS h'.1;omega
 cS:=fun h'=>by have:=h.c.lt;have:=hu.size;rcases h' with h'|h';exact h.cS h'.1;omega
 fS:=fun h'=>by have:=h.f.lt;have:=hu.size;rcases h' with h'|h';exact h.fS h'.1;omega
 nib:=h.nib.keep hu id
 nibS:=fun h'=>by have:=h.nib.lt;have:=hu.size;rcases h' with h'|h';exact h.nibS h'.1;omega
 zs:=h.zs
theorem LgsY.back{w1:World}(h:LgsY bad S w li lc lf d base k F O)(hu1:Upd (fun _=>False) w w1)(hd:Dv (fun j=>(S j/\j<w.heap.size)\/w1.heap.size<=j) w' d F O [])(hu:Upd (fun j=>(S j/\j<w.heap.size)\/w1.heap.size<=j) w1 w'):Dv S w' d F O []/\Upd S w w':=by
 have hs:=hu1.size;exact⟨hd.wide (fun j h'=>h'.elim (fun h=>h.1) (fun h'=>h.nS j oM)),(hu1.mono fE).new hu (fun i hi h'=>h'.elim (fun h=>h.1) (fun h'=>oM))⟩
def zaK(bad:Prop)(S:Nat->Prop)(w:World)(d:Nat)(F:List Bk)(O:List (Nat×Bk))(v:Int->Value)(e:Ending)(w':World):Prop:=∃cd,(cd=0\/bad/\cd=12)/\e=.returned (v cd)/\Dv S w' d F O []/\Upd S w w'
theorem TA(h:LgsY bad S w li lc lf d base k F O)(m:Value)(hm:∃mb,m=.map (some mb)):Calls prog 160 #[.pointer (some ⟨lc,0,none⟩),m,.func (.func 161) #[] #[]] w (zaK bad S w d F O (.int .i64)):=by
 have HA:=qqh h.allC;obtain⟨mb,rfl⟩:=hm;clear h;go_enter func160,ntmps160
 go_wp2_with fail
 refine HA.o.mono ?_;rintro e w2 ⟨cd,hcd,rfl,hd2,hu2⟩;have H2:=Y2 hd2 hu2;clear hd2 hu2 HA;rcases hcd with rfl|⟨hbd,rfl⟩
 rotate_left
 .go_wp2_with fail
  go_ret
  exact⟨12,.inr ⟨hbd,rfl⟩,rfl,H2.o.1,H2.o.2⟩
 go_wp2_with fail
 go_loopg[21] 0 (fun gk s21 wr=>s21=.int .i64 0/\wr=w2)
 case atStart=>exact⟨rfl,rfl⟩
 case round=>
  obtain⟨rfl,hw⟩:=hrel;rw[hw];clear hw;go_wp2_with fail
  go_ret
  exact⟨0,.inl rfl,rfl,H2.o.1,H2.o.2⟩
theorem TB(h:LgsY bad S w li lc lf d base k F O)(m:Value)(hm:∃mb,m=.map (some mb)):Calls prog 162 #[.pointer (some ⟨lf,0,none⟩),m,.func (.func 163) #[] #[]] w (zaK bad S w d F O (.int .i64)):=by
 have HA:=qqh h.allF;obtain⟨mb,rfl⟩:=hm;clear h;go_enter func162,ntmps162
 go_wp2_with fail
 refine HA.o.mono ?_;rintro e w2 ⟨cd,hcd,rfl,hd2,hu2⟩;have H2:=Y2 hd2 hu2;clear hd2 hu2 HA;rcases hcd with rfl|⟨hbd,rfl⟩
 rotate_left
 .go_wp2_with fail
  go_ret
  exact⟨12,.inr ⟨hbd,rfl⟩,rfl,H2.o.1,H2.o.2⟩
 go_wp2_with fail
 go_loopg[21] 0 (fun gk s21 wr=>s21=.int .i64 0/\wr=w2)
 case atStart=>exact⟨rfl,rfl⟩
 case round=>
  obtain⟨rfl,hw⟩:=hrel;rw[hw];clear hw;go_wp2_with fail
  go_ret
  exact⟨0,.inl rfl,rfl,H2.o.1,H2.o.2⟩
theorem Eq(h:LgsY bad S w li lc lf d base k F O):Calls prog 93 #[.agg #[.pointer (some ⟨li,0,none⟩),.pointer (some ⟨lc,0,none⟩),.pointer (some ⟨lf,0,none⟩)]] w (zaK bad S w d F O (fun cd=> .tuple #[.slice none 0 0,.int .i64 cd])):=by
 have hmm:= @run_makeMap prog;obtain⟨w1,hw1⟩:=qqe (w.alloc (.cells #[.pointer (some ⟨li,0,none⟩),.pointer (some ⟨lc,0,none⟩),.pointer (some ⟨lf,0,none⟩)] 103));have hu1:=qqu hw1;have g1:=qqg hw1;have h1:=h.box hu1;obtain⟨T,hT⟩:∃T:Nat->Prop,T=fun j=>(S j/\j<w.heap.size)\/w1.heap.size<=j:=⟨_,rfl⟩
 rw[<-hT]at h1;have hTq:¬T w.heap.size:=by rw[hT];have:=zd g1;rintro(h|h)<;>omega
 have hTn:∀j,w1.heap.size<=j->T j:=fun j hj=>by rw[hT];exact .inr hj
 have H:=Y7 h hu1 h1 hT hTq g1 hTn;have HW:=qqh hw1;have c0:=za g1 0;have HI:=qqh h1.allI;clear h hu1 h1 hT hTq hw1 g1 hTn;go_enter func93,ntmps93
 go_wp2_with fail
 rw[<-HW.o];refine HI.o.mono ?_;rintro e w2 ⟨cd,hcd,rfl,hd2,hu2⟩;rcases hcd with rfl|⟨hbd,rfl⟩
 rotate_left
 .have hu9:=hu2;have hd9:=hd2;rw[H.o.2.2.2.1]at hd9 hu9;have HE:=qqh (H.o.1.back H.o.2.1 hd9 hu9);clear hd9 hu9;clear hd2 hu2 HI c0;go_wp2_with fail
  go_ret2
  exact⟨12,.inr ⟨hbd,rfl⟩,rfl,HE.o.1,HE.o.2⟩
 obtain⟨w3,hw3⟩:=qqe (w2.alloc (.map #[] 0));have hu3:Upd T w2 w3:=by rw[hw3];exact((uur _ w2).alloc _)
 have h3:=(H.o.2.2.1.turn hu2 hd2).turn hu3 (hd2.new (by rw[hw3];exact((uur _ w2).alloc _)));have hu13:=hu2.trans hu3;have c1:=za ((hu13.block _ (zd H.o.2.2.2.2.2.1) H.o.2.2.2.2.1).trans H.o.2.2.2.2.2.1) 1;have HC:=qqh (TA h3 (.map (some w2.heap.size)) ⟨_,rfl⟩);have H3:=Y2 h3 hu13;have HW3:=qqh hw3;rw[hw3]at c1;clear h3 hd2 hu2 hu3 hu13 HI c0 hw3;go_wp2_with fail
 rw[<-HW3.o];refine HC.o.mono ?_;rintro e w4 ⟨cd,hcd,rfl,hd4,hu4⟩;rcases hcd with rfl|⟨hbd,rfl⟩
 rotate_left
 .have hu9:=H3.o.2.trans hu4;have hd9:=hd4;rw[H.o.2.2.2.1]at hd9 hu9;have HE:=qqh (H.o.1.back H.o.2.1 hd9 hu9);clear hd9 hu9;clear hd4 hu4 HC c1;go_wp2_with fail
  go_ret2
  exact⟨12,.inr ⟨hbd,rfl⟩,rfl,HE.o.1,HE.o.2⟩
 have h4:=H3.o.1.turn hu4 hd4;have hu14:=H3.o.2.trans hu4;have c2:=za ((hu14.block _ (zd H.o.2.2.2.2.2.1) H.o.2.2.2.2.1).trans H.o.2.2.2.2.2.1) 2;have HF:=qqh (TB h4 (.map (some w2.heap.size)) ⟨_,rfl⟩);have H4:=qqh hu14;clear h4 hd4 hu4 hu14 HC c1;go_wp2_with fail
 refine HF.o.mono ?_;rintro e w5 ⟨cd,hcd,rfl,hd5,hu5⟩;rcases hcd with rfl|⟨hbd,rfl⟩
 rotate_left
 .have hu9:=H4.o.trans hu5;have hd9:=hd5;rw[H.o.2.2.2.1]at hd9 hu9;have HE:=qqh (H.o.1.back H.o.2.1 hd9 hu9);clear hd9 hu9;clear hd5 hu5 HF c2;go_wp2_with fail
  go_ret2
  exact⟨12,.inr ⟨hbd,rfl⟩,rfl,HE.o.1,HE.o.2⟩
 have hu15:=H4.o.trans hu5;rw[H.o.2.2.2.1]at hd5 hu15;have HE:=qqh (H.o.1.back H.o.2.1 hd5 hu15);clear hd5 hu5 hu15 HF c2;go_wp2_with fail
 go_loopg[9,38] 0 (fun gk s9 s38 wr=>s9=.slice none 0 0/\s38=.int .i64 0/\wr=w5)
 case atStart=>exact⟨rfl,rfl,rfl⟩
 case round=>
  obtain⟨rfl,rfl,hw⟩:=hrel;rw[hw];clear hw;go_wp2_with fail
  go_ret2
  exact⟨0,.inl rfl,rfl,HE.o.1,HE.o.2⟩
end
def tI(ns:List Nat)(i:Nat):Ent:=⟨ns.getD (4+4*i) 0,ns.getD (4+4*i+1) 0,ns.getD (4+4*i+2) 0==1,ns.getD (4+4*i+3) 0⟩
theorem zT(ns:List Nat)(i:Nat):(natsI ns).getD i 0=(ns.getD i 0:Nat):=by
 simp only[natsI,qyf,qym];cases ns[i]?<;>rfl
theorem xu(xs:List Int)(i j:Nat)(hj:j<4):(rowI xs i).getD j 0=xs.getD (4+4*i+j) 0:=by
 simp only[rowI,qyf,qyp,if_pos hj,qyi]
theorem Ry(ns:List Nat)(i:Nat):entX (natsI ns) i=entC (tI ns i):=by
 unfold entX entC tI;rw[xu _ _ _ oM,xu _ _ _ oM,xu _ _ _ oM,xu _ _ _ oM,zT,zT,zT,zT];have:((ns.getD (4+4*i+2) 0:Nat):Int)==1↔ns.getD (4+4*i+2) 0==1:=by simp;omega
 rw[Bool.eq_iff_iff.2 this];rfl
def pgSeq(b:Bk):Nat:=(numsP b).getD 0 0
def pgNo(b:Bk):Nat:=(numsP b).getD 1 0
def pgOf(b:Bk):Nat:=(numsP b).getD 2 0
def pgMany(b:Bk):Nat:=(numsP b).getD 3 0
def pgEnts(b:Bk):List Ent:=(List.range (pgMany b)).map (tI (numsP b))
def goesP(seq of no:Nat)(b:Bk):Bool:=
 if of<=no then b==zB else okP b&&(pgSeq b==seq&&(pgNo b==no&&(pgOf b==of&&(if no+1=of then !(pgMany b==0&&decide (0<no))else pgMany b==4))))
def readSeq(l:List Bk):Nat:=pgSeq (l.getD 0 zB)
def readOf(l:List Bk):Nat:=pgOf (l.getD 0 zB)
def readOk(l:List Bk):Bool:=okP (l.getD 0 zB)&&(decide (readOf l<=l.length)&&(List.range l.length).all fun i=>goesP (readSeq l) (readOf l) i (l.getD i zB))
def entsTo(l:List Bk)(k:Nat):List Ent:=(List.range k).flatMap fun i=>pgEnts (l.getD i zB)
def readEs(l:List Bk):List Ent:=entsTo l (readOf l)
theorem Ub{b:Bk}(h:okP b=true):mayP (natsI (numsP b))=true:=by
 unfold okP okGet at h;simp only[qxo]at h;exact h.2.2.2
theorem yB{b:Bk}(h:okP b=true):pgSeq b<=1099511627776/\pgNo b<=255/\1<=pgOf b/\pgOf b<=256/\pgMany b<=4:=by
 have hm:=Ub h;unfold mayP at hm;rw[qxo,qxo]at hm;have hl:(natsI (numsP b)).length=20:=by simp[natsI,numsP,zP,Vz]
 have hw:=hm.1.1;have w0:=zV hw (i:=0) de oM;have w1:=zV hw (i:=1) de oM;have w2:=zV hw (i:=2) de oM;have w3:=zV hw (i:=3) de oM;have e:∀i (hi:i<(natsI (numsP b)).length),(natsI (numsP b))[i]=((numsP b).getD i 0:Nat):=fun i hi=>by
  rw[<-zT,qyf,qyj hi];rfl
 rw[e]at w0 w1 w2 w3;simp only[bndP,qys,qyr]at w0 w1 w2 w3;unfold pgSeq pgNo pgOf pgMany;omega
theorem Xn{w:World}{p:Nat}{b:Bk}{T:TypeId}(h:w.heap[p]?=some (.cells (dsP (natsI (numsP b))).toArray T (0,0)))(hok:okP b=true):
  w.cell? ⟨p,0,none⟩=some (.int .i64 (pgSeq b:Nat))/\w.cell? ⟨p,1,none⟩=some (.int .i64 (pgNo b:Nat))/\w.cell? ⟨p,2,none⟩=some (.int .i64 (pgOf b:Nat))/\w.cell? ⟨p,3,none⟩=some (.int .i64 (pgMany b:Nat))/\w.rangeAt p 4 ((pgEnts b).flatMap entC):=by
 refine⟨?_,?_,?_,?_,?_⟩
 .rw [za h 0];show some (Value.int .i64 ((natsI (numsP b)).getD 0 0))=_;rw[zT];rfl
 .rw [za h 1];show some (Value.int .i64 ((natsI (numsP b)).getD 1 0))=_;rw[zT];rfl
 .rw [za h 2];show some (Value.int .i64 ((natsI (numsP b)).getD 2 0))=_;rw[zT];rfl
 .rw [za h 3];show some (Value.int .i64 ((natsI (numsP b)).getD 3 0))=_;rw[zT];rfl
 .obtain ⟨-,-,-,-,hm⟩:=yB hok;intro j u hj;have hlen:=(qyl.1 hj).1;rw[za h];have e:(dsP (natsI (numsP b))).toArray[4+j]?=((List.range 4).flatMap fun i=>entC (tI (numsP b) i))[j]?:=by
   rw[qyq];unfold dsP dsPk;rw[qyh oe];simp only[qyz,qzc];rw[show 4+j-(0+1+1+1+1)=j by omega]
   congr 1
   rw[List.flatMap_def,List.flatMap_def]
   congr 1
   apply List.map_congr_left;intro i hi;rw[if_pos (qzs.1 hi),Ry]
  rw[e,<-hj];unfold pgEnts;rw[List.flatMap_map];rw[show List.range 4=List.range (pgMany b)++(List.range (4-pgMany b)).map (pgMany b+·) by rw[<-List.range_add,Nat.add_sub_cancel' hm],qyd,qyg];have:((List.range (pgMany b)).flatMap fun i=>entC (tI (numsP b) i))=((pgEnts b).flatMap entC):=by unfold pgEnts;rw[List.flatMap_map]
  rw[this];exact hlen
theorem vS{seq:Nat}{E:List Ent}(hs:seq<=1099511627776)(hE:∀x∈E,YW x)(hn:needN E.length<=256){k:Nat}(hk:k<needN E.length):
  let b:=sectP (pageXs seq (needN E.length) E k)
  okP b=true/\pgSeq b=seq/\pgNo b=k/\pgOf b=needN E.length/\pgMany b=(partE E k).length/\pgEnts b=partE E k:=by
 intro b;obtain⟨h1,h2⟩:=Tx (yW seq (needN E.length) E k) (uY hs hE hn hk);have h3:numsP b=pgN seq k (needN E.length) (partE E k).length (padE (partE E k)):=by
  have:natsI (numsP b)=natsI (pgN seq k (needN E.length) (partE E k).length (padE (partE E k))):=h2;unfold natsI at this;exact(List.map_inj_right (f:=fun(n:Nat)=>(n:Int)) (fun x y h=>Int.ofNat_inj.1 h)).1 this
 have hm:pgMany b=(partE E k).length:=by unfold pgMany;rw[h3];rfl
 refine⟨h1,?_,?_,?_,hm,?_⟩
 .unfold pgSeq;rw[h3];rfl
 .unfold pgNo;rw[h3];rfl
 .unfold pgOf;rw[h3];rfl
 .unfold pgEnts;rw[hm,h3];have hp:=tU E k;have hrow:∀i,i<(partE E k).length->tI (pgN seq k (needN E.length) (partE E k).length (padE (partE E k))) i=(partE E k).getD i Ent.none:=by
   intro i hi;have hr:=sG seq k (needN E.length) (partE E k).length (padE (partE E k)) (i:=i) (by rw[tV hp];omega);have hg:(padE (partE E k)).getD i Ent.none=(partE E k).getD i Ent.none:=by
    simp[padE,List.getD_eq_getElem?_getD,List.getElem?_append_left hi]
   rw[hg]at hr;generalize (partE E k).getD i Ent.none=x at*;generalize pgN seq k (needN E.length) (partE E k).length (padE (partE E k))=ns at*;have hq:∀j,j<4->ns.getD (4+4*i+j) 0=(entN x).getD j 0:=fun j hj=>by
    have:=congrArg (fun l=>l.getD j 0) hr;simp only[xu _ _ _ hj,zT]at this;exact Int.ofNat_inj.1 this
   have q0:=hq 0 oM;have q1:=hq 1 oM;have q2:=hq 2 oM;have q3:=hq 3 oM;unfold tI;rw[qXm]at q0;rw[q0,q1,q2,q3];obtain⟨b,s,d,m⟩:=x;cases d<;>rfl
  apply qyc
  .simp
  .intro i h1 h2;rw[qyt,List.getElem_range,hrow i h2,qyf,qyj h2];rfl
theorem Xo(E:List Ent):∀k,(List.range k).flatMap (partE E)=E.take (4*k)
 |0=>oe
 |k+1=>by
  rw[qXc,qyd,Xo E k];simp only[qye,List.flatMap_nil,qxx,partE];rw[show 4*(k+1)=4*k+4 by omega,List.take_add]
theorem RA(E:List Ent)(k:Nat):(partE E k).length=min 4 (E.length-4*k):=by simp[partE]
theorem WF{seq:Nat}{E:List Ent}(hs:seq<=1099511627776)(hE:∀x∈E,YW x)(hn:needN E.length<=256){l:List Bk}(hm:needN E.length<=l.length)(hl:∀i<l.length,l.getD i zB=(pagesB seq E).getD i zB):
  readOk l=true/\readSeq l=seq/\readEs l=E:=by
 have hnp:1<=needN E.length:=by unfold needN;omega
 have hpg:∀i,i<needN E.length->l.getD i zB=sectP (pageXs seq (needN E.length) E i):=fun i hi=>by
  rw[hl i oM,pagesB,zZ,qyf,qym,List.getElem?_range hi];rfl
 have h0:=vS hs hE hn (k:=0) hnp;dsimp only at h0;rw[<-hpg 0 hnp]at h0;obtain⟨a1,a2,a3,a4,a5,a6⟩:=h0;have hof:readOf l=needN E.length:=a4;refine⟨?_,a2,?_⟩
 .unfold readOk;rw[a1,hof,qYr hm,qxp,qxp,qxv];intro i hi;have hi:=qzs.1 hi;unfold goesP;by_cases h:needN E.length<=i
  .rw [if_pos h,hl i hi,qyf,qyk (by rw[pagesB,xH];exact h)];simp
  .rw [if_neg h];obtain⟨b1,b2,b3,b4,b5,b6⟩:=vS hs hE hn (k:=i) oM;rw[<-hpg i oM]at b1 b2 b3 b4 b5 b6;rw[b1,b2,b3,b4,b5,show readSeq l=seq from a2,RA];unfold needN at h⊢;split
   .next he=>
    simp only[qxp,beq_self_eq_true,Bool.not_eq_true',Bool.and_eq_false_iff,qYo,qYq];by_cases hz:i=0
    .right;omega
    .left;omega
   .next he=>
    simp only[qxp,beq_self_eq_true,beq_iff_eq];omega
 .unfold readEs entsTo;rw[hof];have:(List.range (needN E.length)).flatMap (fun i=>pgEnts (l.getD i zB))=(List.range (needN E.length)).flatMap (partE E):=by
   rw[List.flatMap_def,List.flatMap_def]
   congr 1
   apply List.map_congr_left;intro i hi;obtain⟨-,-,-,-,-,b6⟩:=vS hs hE hn (k:=i) (qzs.1 hi);rw[<-hpg i (qzs.1 hi)]at b6;exact b6
  rw[this,Xo,qXj (by unfold needN;omega)]
theorem RB:okP zB=false:=kR
end
end Go.Proofs.YtpejdgiccaijfaaGreatDoor
