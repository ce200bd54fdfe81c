/- See GetG2. att -/
import Derived.Test.YtpejdgiccaijfaaGreatDoorG19
import Derived.Test.YtpejdgiccaijfaaGreatDoorG20
import Derived.Test.YtpejdgiccaijfaaGreatDoorG18
set_option maxRecDepth 100000
set_option maxHeartbeats 2000000
namespace Go.Proofs.YtpejdgiccaijfaaGreatDoor
open Go Go.RowKit Tryz
section
def zaW(S:Nat->Prop)(w:World)(b:Nat)(F:List Bk)(O:List (Nat×Bk))(r:List Value×Int)(e:Ending)(w':World):Prop:=e=.returned (.tuple #[.agg r.1.toArray,.int .i64 r.2])/\Dv S w' b F O []/\Upd S w w'
def supR(n:CaN)(F G:List Bk)(y:Bk):List Value×Int:=if okS y=true then(if F.length=n.size/\G.length=n.bl then(n.C,0)else(zeroS,22))else(zeroS,cdS y)
theorem ZT:∀w:World,(Instr.alloc 44 true (.tuple #[])).run prog w=.ok (.pointer (some ⟨w.heap.size,0,none⟩)) (w.alloc (.cells zeroS.toArray 44)):=by
 intro w;kernel_rfl
theorem ZU:∀w:World,(Instr.build 44 #[]).run prog w=.ok (.agg zeroS.toArray) w:=by
 intro w;kernel_rfl
theorem yY{ops:Array Oper}{rest:List Oper}{op:Oper}{a:Act}{w:World}{Q:Exit->Act->World->Prop}(hgd:op.guard=none)(t:TypeId)(ho:op.op=.build t #[]){v:Value}
  (hrun:∀w:World,(Instr.build t #[]).run prog w=.ok v w)
  (h:wpList prog ops Q rest (a.put op.dst v) w):wpList prog ops Q (op::rest) a w:=by
 refine qYz hgd fun K' hK'=>?_;unfold Oper.wp;simp only[execOp,ho,qzk,qzj,qYf,hrun,qYe];exact hK' _ _ h
theorem zaX{y:Bk}(h:okS y=false):cdS y=12\/cdS y=13:=by
 unfold okS at h;unfold cdS xg;rw[h,if_neg oe];split
 .exact .inl rfl
 .exact .inr rfl
theorem zaY{S T:Nat->Prop}{w:World}{b bb:Nat}{F G:List Bk}{O Q:List (Nat×Bk)}{P:List Int}(hd:Dv S w b F O [])(hn:∀j,w.heap.size<=j->S j)(hb:Dv T w bb G Q P)(hT:∀j,T j->¬S j)(hN:Nib w)(hgS:¬S 0)(hF:0<F.length)
  (n:CaN) (hok:n.Ok) (hy:okS (curB F O 0)=true->dsS (natsI (numsS (curB F O 0)))=n.C):
  Calls prog 84 #[ptr b,ptr bb] w (zaW S w b F O (supR n F G (curB F O 0))):=by
 obtain⟨Z,hZ⟩:=qqe (zeroS);have hal:=ZT;have hbu:=ZU;simp only[<-hZ]at hal hbu;have HZZ:Hid (Z=zeroS/\Z.length=7/\Z.toArray.size=7/\(prog.info? 44).map (·.size)=some Z.toArray.size/\(Z.toArray).all (·.oneCell')=true/\(prog.info? 44).map (·.size)=some Z.length/\∀u∈Z,u.oneCell'=true):=
  ⟨hZ,by rw[hZ];rfl,by rw[hZ];rfl,by rw[hZ];exact yp,by rw[hZ];exact rh,by rw[hZ];exact yp,by rw[hZ];exact qxv.1 (by simp[zeroS,Value.oneCell'])⟩
 obtain⟨y,hyy⟩:=qqe (curB F O 0);obtain⟨R,hR⟩:=qqe (supR n F G (curB F O 0));rw[<-hR];rw[<-hyy]at hR hy;have hyl:y.length=64:=by rw[hyy];exact ql hd.good 0
 obtain⟨w1,hw1⟩:=qqe (w.alloc (.cells Z.toArray 44));have hu1:=qqu hw1;have g1:=qqg hw1;have z1:w1.heap.size=w.heap.size+1:=by rw[hw1];simp
 have hd1:=(hd.but (qXo _)).keep hu1 (fun _ _ h=>h);have hn1:∀j,w1.heap.size<=j->S j/\j≠w.heap.size:=fun j hj=>⟨hn j oM,oM⟩
 have HRd:=qqh (vM hd1 hn1 0 hF);have H:=Y9 hd1 hn1 hb hT hN hgS hok hy hR;have H1:=Y6 hw1 hu1 g1 z1 hyy (hn _ (qXo _));have hsy:=zq y hyl;clear hd hn hb hT hN hgS hF hok hy hR hd1 hn1 hw1 hu1 g1 z1 hyy hZ;go_enter func84,ntmps84
 go_wp2_with (first
  |(refine zS rfl _ rfl _ hal ?_)
  |fail)
 rw[<-H1.o.1];refine HRd.out.mono ?_;rintro e w2 ⟨y2,cd2,rfl,hy2,hcd2,-,hd2,hu2⟩;rw[if_neg de]at hy2 hcd2;rw[<-H1.o.2.2.2.2.1]at hy2;subst hy2 hcd2;have g2:=(hu2.block _ (zd H1.o.2.2.1) (fun h=>h.2 rfl)).trans H1.o.2.2.1;obtain⟨w3,hw3⟩:=qqe (w2.alloc (.cells (bkC y2).toArray 60));have hu3:=qqu hw3;have r3:w3.rangeAt w2.heap.size 0 (bkC y2):=by rw[hw3];exact zg (zc w2 _ rfl)
 have U3:Upd (fun j=>S j/\j≠w.heap.size) w1 w3:=hu2.trans (hu3.mono fE);have hN3:Nib w3:=(H.o.2.2.2.2.1.keep H1.o.2.1 id).keep U3 (fun h=>H.o.2.2.2.2.2.1 h.1);have HG:=qqh (RM hN3 y2 hyl);have H3:=Y5 hw3 U3 (hd2.new hu3) (hu3.jT g2) hN3;rw[hw3]at r3;clear hd2 hu2 g2 hu3 U3 hN3 hw3 HRd;go_wp2_with (first
  |(refine zk rfl _ _ _ rfl _ _ (bkC y2) rfl rfl (by rw[zm,hyl];rfl) hsy (zu y2) ?_)
  |(refine qYy rfl _ _ rfl _ _ rfl _ _ r3 underlying60 rfl hsy ?_)
  |fail)
 rw[<-H3.o.1];refine HG.o.mono ?_;rintro e w4 ⟨⟨rs,hr1,hr2,rfl⟩,hb4⟩;have hu4:=qqb hb4;have hrs:Hid (rs.length=7/\∀v∈rs,v.oneCell'=true):=by
  cases hk:okS y2 with
  |true=>rw[hr1 hk];exact⟨qc _,qd _⟩
  |false=>rw[hr2 hk];exact⟨rfl,qxv.1 (by simp[zeroS,Value.oneCell']:zeroS.all (·.oneCell')=true)⟩
 have hsr:Hid ((prog.info? 44).map (·.size)=some rs.length):=by show _=_;rw[hrs.out.1];exact yp
 obtain⟨w5,hw5⟩:=qqe (w4.alloc (.cells rs.toArray 44));have hu5:=qqu hw5;have U5:Upd (fun j=>S j/\j≠w.heap.size) w1 w5:=H3.o.2.1.trans ((hu4.trans hu5).mono fE);have d5:=H3.o.2.2.1.new (hu4.trans hu5);have g5:=(hu4.trans hu5).jT H3.o.2.2.2.1;have r5:w5.rangeAt w4.heap.size 0 rs:=by rw[hw5];exact zg (zc w4 _ rfl)
 have tA:=zD (n:=7) g5 ow;have HE:Hid (∀W',Upd (fun j=>j=w.heap.size) w5 W'->Dv S W' b F O []/\Upd S w W'):=fun W' hu=>⟨(d5.keep hu (fun j h e=>h.2 e)).wide (fun j h=>h.1),((H1.o.2.1.mono fE).trans (U5.mono (fun _ _ h=>h.1))).trans (hu.mono (fun j _ e=>by rw[e];exact H1.o.2.2.2.2.2))⟩
 have H5:=Y5 hw5 d5 g5 r5 U5;have HR12:=Y2 hr1 hr2;clear hb4 hu4 hu5 U5 d5 g5 r3 hr1 hr2 HG;rw[hw5]at tA r5;have tA7:(w4.alloc (.cells rs.toArray 44)).there w.heap.size 0 Z.toArray.size:=by rw[HZZ.o.2.2.1];exact tA
 cases hk:okS y2 with
 |false=>
  have e1:R=(zeroS,cdS y2):=by rw[H.o.2.2.2.2.2.2.2.2];unfold supR;rw[hk,if_neg oe]
  have hcd:=zaX hk;have HK:=Y2 e1 hcd;have q0:¬cdS y2=0:=by rcases hcd with h|h<;>rw[h]<;>decide
  have q1:(cdS y2==0)=false:=by simpa using q0
  have q2:(cdS y2 !=0)=true:=by simpa using q0
  clear e1 hcd hw5 hk;generalize cdS y2=cd at*;go_wp2_with (first
   |(refine zS rfl _ rfl _ hal ?_)
   |(refine zk rfl _ _ _ rfl _ _ rs rfl rfl (by rw[HZZ.o.2.2.1,hrs.out.1]) hsr.out hrs.out.2 ?_)
   |(refine yY rfl _ rfl hbu ?_)
   |(refine qZa rfl _ _ _ rfl _ _ Z.toArray rfl rfl tA7 HZZ.o.2.2.2.1 HZZ.o.2.2.2.2.1 ?_)
   |fail)
  rw[HK.o.1];refine qYp (zp rfl _ _ w.heap.size 0 Z _ rfl (qYk _ _ _ _ jG) underlying44 rfl HZZ.o.2.2.2.2.2.1) rfl ?_;rw[<-H5.o.1];have h:=HE.o _ (zo w5 w.heap.size 0 Z);exact⟨by rw[HZZ.o.1];rfl,h.1,h.2⟩
 |true=>
  have e0:cdS y2=0:=by unfold okS at hk;unfold cdS xg;rw[hk,if_pos rfl]
  have er:rs=n.C:=(HR12.o.1 hk).trans (H.o.2.2.2.2.2.2.2.1 hk);have e1:R=if F.length=n.size/\G.length=n.bl then(n.C,0)else(zeroS,22):=by rw[H.o.2.2.2.2.2.2.2.2];unfold supR;rw[if_pos hk]
  have HK:=Y2 er e1;obtain⟨V,hV⟩:=qqe (layC n.sl n.jo n.pa n.lo);have HPl:Hid (Calls prog 26 #[.agg rs.toArray] w5 fun e w'=>e=.returned (.tuple #[.agg V.toArray,.int .i64 0])/\Below w5.heap.size w5 w'):=by
   show Calls _ _ _ _ _;rw[er,hV];obtain⟨b1,b2,s1,s2,j1,j2,l1,l2,a1,a2,p1,p2,z⟩:=H.o.2.2.2.2.2.2.1;exact un n.id n.bl n.sl n.jo n.pa n.lo n.ba b1 b2 s1 s2 j1 j2 l1 l2 a1 a2 p1 p2 z w5
  have hV7:V.length=7:=by rw[hV];rfl
  have HV:=Y4 (show(prog.info? 73).map (·.size)=some V.length by rw[hV];exact xF) (show∀v∈V,v.oneCell'=true by rw[hV];exact ut _ _ _ _) hV7 hV;rw[e0];clear e0 er e1 hV hV7 hw5 hk;go_wp2_with (first
   |(refine zS rfl _ rfl _ hal ?_)
   |(refine zk rfl _ _ _ rfl _ _ rs rfl rfl (by rw[HZZ.o.2.2.1,hrs.out.1]) hsr.out hrs.out.2 ?_)
   |(refine qYy rfl _ _ rfl _ _ rfl _ _ r5 underlying44 rfl hsr.out ?_)
   |fail)
  rw[<-H5.o.1];refine HPl.out.mono ?_;rintro e w6 ⟨rfl,hb6⟩;have hu6:=qqb hb6;obtain⟨w7,hw7⟩:=qqe (w6.alloc (.cells V.toArray 73));have hu7:=qqu hw7;have u57:=hu6.trans hu7;have g7:=u57.jT H5.o.2.2.1;have r7:=u57.range H5.o.2.2.2.1 id;have v7:w7.rangeAt w6.heap.size 0 V:=by rw[hw7];exact zg (zc w6 _ rfl)
  have b7:=((H.o.2.2.1.new H1.o.2.1).keep H5.o.2.2.2.2 (fun j h h'=>H.o.2.2.2.1 j h h'.1)).new u57;have d7:=H5.o.2.1.new u57;have hM:=QD d7 b7 n.id n.bl n.sl n.jo n.pa n.lo n.ba;rw[show superC n.id n.bl n.sl n.jo n.pa n.lo n.ba=rs from HK.o.1.symm,<-HV.o.2.2.2]at hM;obtain⟨mc,hmc⟩:=qqe (qJ F G (sizeN n.sl n.jo n.pa n.lo) n.bl);rw[<-hmc]at hM;replace hM:=qqh hM;have tA2:=zD (n:=7) g7 ow;have H7:=Y6 hw7 u57 g7 d7 hmc (show w5.heap.size<=w6.heap.size from hu6.size);have hV7:=HV.o.2.2.1;rw[hw7]at r7 v7 tA2;clear hb6 hu6 hu7 u57 g7 d7 b7 hw7 hmc tA tA7 r5;go_wp2_with (first
   |(refine zk rfl _ _ _ rfl _ _ V rfl rfl (by rw[hV7];rfl) HV.o.1 HV.o.2.1 ?_)
   |(refine qYy rfl _ _ rfl _ _ rfl _ _ r7 underlying44 rfl hsr.out ?_)
   |(refine qYy rfl _ _ rfl _ _ rfl _ _ v7 underlying73 rfl HV.o.1 ?_)
   |fail)
  rw[<-H7.o.1];refine hM.out.mono ?_;rintro e w8 ⟨rfl,hu8⟩;have g8:=hu8.jT H7.o.2.2.1;have t8:=zD (n:=7) g8 ow;have r8:w8.rangeAt w4.heap.size 0 rs:=by
   have:=(H7.o.2.1.trans hu8).range H5.o.2.2.2.1 id;exact this
  have HE8:Hid (∀W',Upd (fun j=>j=w.heap.size) w8 W'->Dv S W' b F O []/\Upd S w W'):=fun W' hu=>HE.o W' ((((H7.o.2.1.trans hu8).mono fE)).trans hu)|>.imp id id
  clear hu8 g8 r7 v7 tA2 hM;by_cases hc:F.length=n.size/\G.length=n.bl
  .have e0:mc=0:=by rw[H7.o.2.2.2.2.1];exact if_pos hc
   have e2:R=(n.C,0):=by rw[HK.o.2,if_pos hc]
   have HX:=qqh e2;have t8r:w8.there w.heap.size 0 rs.toArray.size:=by rw[show rs.toArray.size=7 by simpa using hrs.out.1];exact t8
   have t8l:w8.there w.heap.size 0 rs.length:=by rw[hrs.out.1];exact t8
   have hs2:Hid ((prog.info? 44).map (·.size)=some rs.toArray.size):=by show _=_;rw[show rs.toArray.size=7 by simpa using hrs.out.1];exact yp
   subst e0;clear e2 hc;go_wp2_with (first
    |(refine qYy rfl _ _ rfl _ _ rfl _ _ r8 underlying44 rfl hsr.out ?_)
    |(refine qZa rfl _ _ _ rfl _ _ rs.toArray rfl rfl t8r hs2.out (qYn hrs.out.2) ?_)
    |fail)
   rw[HX.o];refine qYp (zp rfl _ _ w.heap.size 0 rs _ rfl (qYk _ _ _ _ t8l) underlying44 rfl hsr.out) rfl ?_;have h:=HE8.o _ (zo w8 w.heap.size 0 rs);exact⟨by rw[HK.o.1];rfl,h.1,h.2⟩
  .have e0:mc=22:=by rw[H7.o.2.2.2.2.1];exact if_neg hc
   have e2:R=(zeroS,22):=by rw[HK.o.2,if_neg hc]
   have HX:=qqh e2;have t8z:w8.there w.heap.size 0 Z.toArray.size:=by rw[HZZ.o.2.2.1];exact t8
   subst e0;clear e2 hc;go_wp2_with (first
    |(refine yY rfl _ rfl hbu ?_)
    |(refine qZa rfl _ _ _ rfl _ _ Z.toArray rfl rfl t8z HZZ.o.2.2.2.1 HZZ.o.2.2.2.2.1 ?_)
    |fail)
   rw[HX.o];refine qYp (zp rfl _ _ w.heap.size 0 Z _ rfl (qYk _ _ _ _ (by rw[HZZ.o.2.1];exact t8)) underlying44 rfl HZZ.o.2.2.2.2.2.1) rfl ?_;have h:=HE8.o _ (zo w8 w.heap.size 0 Z);exact⟨by rw[HZZ.o.1];rfl,h.1,h.2⟩
structure Dvs(own:Nat->Nat)(w:World)(ssd back:Nat)(F:List Bk)(O:List (Nat×Bk))(G:List Bk)(Q:List (Nat×Bk))(P:List Int):Prop where
 ssd:Dv (fun j=>own j=2) w ssd F O []
 back:Dv (fun j=>own j=3) w back G Q P
 far:∀j,w.heap.size<=j->own j=0
 nib:Nib w
 tur:Tur w
 on:own 0=0
 ot:own 1=0
section
variable{own own':Nat->Nat}{w w':World}{ssd back:Nat}{F G:List Bk}{O Q:List (Nat×Bk)}{P:List Int}
theorem Dvs.new(h:Dvs own w ssd back F O G Q P)(hu:Upd (fun _=>False) w w'):Dvs own w' ssd back F O G Q P:=
 ⟨h.ssd.new hu,h.back.new hu,fun j hj=>h.far j (qXq hu.size hj),h.nib.keep hu id,h.tur.keep hu id,h.on,h.ot⟩
theorem Dvs.jY(h:Dvs own w ssd back F O G Q P)(hu:Upd (fun _=>False) w w'):Did own own w w':=⟨hu.mono fE,fun _ _=>rfl,fun j hj=>by rw[h.far j hj];decide,fun j hj=>h.far j (qXq hu.size hj)⟩
theorem Dvs.kA(h:Dvs own w ssd back F O G Q P):Dv (fun j=>own j=2\/w.heap.size<=j) w ssd F O []:=(Dv.kB _ _ _ _).open h.ssd
theorem Dvs.on2(h:Dvs own w ssd back F O G Q P):¬(own 0=2\/w.heap.size<=0):=fun h'=>by rcases h' with h'|h';rw[h.on]at h';exact absurd h' de;exact absurd h.nib.lt oM
theorem Dvs.kx{F':List Bk}{O':List (Nat×Bk)}(h:Dvs own w ssd back F O G Q P)(hu:Upd (fun j=>own j=2\/w.heap.size<=j) w w')(hd:Dv (fun j=>own j=2\/w.heap.size<=j) w' ssd F' O' []):Dvs (grow own 2 w.heap.size w'.heap.size) w' ssd back F' O' G Q P where
 ssd:=(Dv.kB _ _ _ _).mine hu.size hd
 back:=(Dv.kB _ _ _ _).other h.back de hu
 far:=(Did.step h.far (t:=2) de de hu).far
 nib:=h.nib.keep hu h.on2
 tur:=h.tur.keep hu (fun hs=>by rcases hs with hs|hs;rw[h.ot]at hs;exact absurd hs de;exact absurd h.tur.lt oM)
 on:=(zw h.nib.lt).trans h.on
 ot:=(zw h.tur.lt).trans h.ot
theorem Dvs.did2(h:Dvs own w ssd back F O G Q P)(hu:Upd (fun j=>own j=2\/w.heap.size<=j) w w'):Did own (grow own 2 w.heap.size w'.heap.size) w w':=Did.step h.far de de hu
theorem Did.zero{b:Nat}{o:Obj}(d:Did own own' w w')(hb:w.heap[b]?=some o)(h0:own b=0):w'.heap[b]?=some o/\own' b=0:=
 ⟨(d.upd.block _ (zd hb) (fun h=>h.1 h0)).trans hb,(d.old _ (zd hb)).trans h0⟩
def Kps(own:Nat->Nat)(w:World)(Fx:Nat->Option Obj):Prop:=∀b o,Fx b=some o->w.heap[b]?=some o/\own b=0
theorem Kps.did{Fx:Nat->Option Obj}(h:Kps own w Fx)(d:Did own own' w w'):Kps own' w' Fx:=fun b o hb=>d.zero (h b o hb).1 (h b o hb).2
theorem Kps.aside{Fx:Nat->Option Obj}(h:Kps own w Fx){S:Nat->Prop}(hu:Upd S w w')(hS:∀j,S j->Fx j=none):Kps own w' Fx:=fun b o hb=>
 ⟨(hu.block _ (zd (h b o hb).1) (fun hs=>by rw[hS b hs]at hb;cases hb)).trans (h b o hb).1,(h b o hb).2⟩
theorem th{b:Nat}{v:Array Value}{t:TypeId}(hn:Nib w)(ht:Tur w)(hb:w.heap[b]?=some (.cells v t (0,0)))(h0:own b=0)(hp:∀k x,v[0]?≠some (.int k x)):∀j,j=b->own j=0/\j≠0/\j≠1:=by
 rintro j rfl;refine⟨h0,fun e=>?_,fun e=>?_⟩
 .have h2:=za hb 0;rw[e]at h2;exact hp _ _ (h2.symm.trans (hn.c 0 de))
 .have h2:=za hb 0;rw[e]at h2;exact hp _ _ (h2.symm.trans ht.c0)
theorem Did.mine{b:Nat}{w2:World}(d:Did own own' w w')(hu:Upd (fun j=>j=b) w' w2)(hb:w.heap.size<=b):Did own own' w w2:=
 ⟨d.upd.new hu (fun i hi e=>oM),d.old,d.new,fun j hj=>d.far j (qXq hu.size hj)⟩
theorem yZ{b:Nat}{v u:Value}{t:TypeId}(h:w.heap[b]?=some (.cells #[v] t (0,0))):(w.setCell ⟨b,0,none⟩ u).heap[b]?=some (.cells #[u] t (0,0)):=zh h 0 u
end
def zcP(own:Nat->Nat)(w:World)(ssd back s13:Nat)(n:CaN)(a:CaS)(e:Ending)(w':World):Prop:=
 e=.returned (.int .i64 0)/\∃c p own' w2,CaAt own' w2 c n p a/\p.ssd=ssd/\p.back=back/\Did own own' w w2/\w'=w2.setCell ⟨s13,0,none⟩ (ptr c)
theorem zeo{own:Nat->Nat}{w:World}{ssd back s8 q qb s10 s11 s12 s13:Nat}{n:CaN}{ao:Option Addr}{ln lc:Nat}{a:CaS}{x:Value}(wh sq:Nat)
  (hnew:Calls prog 89 #[.agg n.C.toArray,ptr ssd,ptr back,.int .i64 (wh:Int),.int .i64 ((sq+1:Nat):Int),.slice ao ln lc] w (Zz own w ssd back n a))
  (hsq:sq<1099511627776) (h8:w.rangeAt s8 0 n.C) (cq:w.cell? ⟨q,0,none⟩=some (ptr ssd)) (cb:w.cell? ⟨qb,0,none⟩=some (ptr back)) (c10:w.cell? ⟨s10,0,none⟩=some (.int .i64 (wh:Int)))
  (c11:w.cell? ⟨s11,0,none⟩=some (.int .i64 (sq:Int))) (c12:w.cell? ⟨s12,0,none⟩=some (.slice ao ln lc)) (h13:w.heap[s13]?=some (.cells #[x] 98 (0,0))) (o13:own s13=0):
  Calls prog 88 #[ptr s8,ptr q,ptr qb,ptr s10,ptr s11,ptr s12,ptr s13] w (zcP own w ssd back s13 n a):=by
 obtain⟨U,hU⟩:=qqe (n.C);have hN:=qqh hnew;have hsU:(prog.info? 44).map (·.size)=some U.length:=by rw[hU];exact xj
 rw[<-hU]at h8 hN;rw[show((sq+1:Nat):Int)=(sq:Int)+1 by simp]at hN;have H:=Y2 h13 o13;clear hnew hU h13 o13;go_enter func88,ntmps88
 go_wp2_with (first
  |(refine qYy rfl _ _ rfl _ _ rfl _ _ h8 underlying44 rfl hsU ?_)
  |fail)
 refine hN.out.mono ?_;rintro e w2 ⟨c,p,own2,rfl,hp1,hp2,hca,hdid⟩;have g2:=(hdid.zero H.o.1 H.o.2).1;have k2:=za g2 0;have f2:=zf g2 0;have H2:=Y4 hca hdid hp1 hp2;clear hca hdid g2 hp1 hp2 h8 cq cb c10 c11 c12 hN;go_wp2
 go_ret
 exact⟨rfl,c,p,own2,w2,H2.o.1,H2.o.2.2.1,H2.o.2.2.2,H2.o.2.1,rfl⟩
def zcQ(_own:Nat->Nat)(w:World)(d s14:Nat)(n:CaN)(e:Ending)(w':World):Prop:=
 e=.returned (.int .i64 0)/\∃li lc lf w2,LogI w2 li d (1+2*n.pa+n.jo) n.lo 150/\LogC w2 lc d (1+2*n.pa+n.jo+n.lo) n.lo 154/\LogF w2 lf d (1+2*n.pa+n.jo+n.lo+n.lo) n.lo 158/\
  (w.heap.size<=li/\w.heap.size<=lc/\w.heap.size<=lf)/\Upd (fun _=>False) w w2/\w'=w2.setCells s14 0 [ptr li,ptr lc,ptr lf]
theorem yx:(prog.info? 103).map (·.size)=some 3:=kR
theorem zep{own:Nat->Nat}{w:World}{c s13 s14:Nat}{n:CaN}{p:CaP}{a:CaS}{x y z:Value}(hca:CaAt own w c n p a)(h13:w.cell? ⟨s13,0,none⟩=some (ptr c))(h14:w.heap[s14]?=some (.cells #[x,y,z] 103 (0,0))):
  Calls prog 90 #[ptr s13,ptr s14] w (zcQ own w p.ssd s14 n):=by
 have HO:=qqh (zcJ hca);have H14:=qqh h14;clear hca h14;go_enter func90,ntmps90
 go_wp2_with fail
 refine HO.o.mono ?_;rintro e w2 ⟨li,lc,lf,rfl,hi,hc,hf,hz,hb⟩;have hu:=qqb hb;have g2:=hu.jT H14.o;have tA:=zD (n:=3) g2 oe;have HE:=Y5 hi hc hf hz hu;clear hi hc hf hz hu hb g2 h13 HO;go_wp2_with (first
  |(refine qZa rfl _ _ _ rfl _ _ [ptr li,ptr lc,ptr lf].toArray rfl rfl tA yx oQ ?_)
  |fail)
 go_ret
 exact⟨rfl,li,lc,lf,w2,HE.o.1,HE.o.2.1,HE.o.2.2.1,HE.o.2.2.2.1,HE.o.2.2.2.2,rfl⟩
theorem zeq{own:Nat->Nat}{w:World}{c s13:Nat}{n:CaN}{p:CaP}{a':CaS}(hck:Calls prog 95 #[ptr c] w (zx own w c n p a' (.int .i64 0)))(h13:w.cell? ⟨s13,0,none⟩=some (ptr c)):
  Calls prog 94 #[ptr s13] w (zx own w c n p a' (.int .i64 0)):=by
 have HO:=qqh hck;clear hck;go_enter func94,ntmps94
 go_wp2_with fail
 refine HO.o.mono ?_;rintro e w2 ⟨rfl,own2,h2,d2⟩;have H2:=Y2 h2 d2;clear h2 d2 HO h13;go_wp2
 go_ret
 exact⟨rfl,own2,H2.o.1,H2.o.2⟩
section
variable{own own':Nat->Nat}{w w':World}{ssd back:Nat}{F G:List Bk}{O Q:List (Nat×Bk)}{P:List Int}
theorem Dvs.j9(h:Dvs own w ssd back F O G Q P){S:Nat->Prop}(hu:Upd S w w')(hS:∀j,S j->own j=0/\j≠0/\j≠1):Dvs own w' ssd back F O G Q P:=by
 have hne:∀(k j:Nat),k≠0->own j=k->¬S j:=fun k j hk hj hs=>hk (hj.symm.trans (hS j hs).1);exact{h with
  ssd:=h.ssd.keep hu (fun j hj=>hne _ j de hj)
  back:=h.back.keep hu (fun j hj=>hne _ j de hj)
  far:=fun j hj=>h.far j (qXq hu.size hj)
  nib:=h.nib.keep hu (fun hs=>(hS _ hs).2.1 rfl)
  tur:=h.tur.keep hu (fun hs=>(hS _ hs).2.2 rfl)}
theorem Dvs.handed(h:Dvs own w ssd back F O G Q P){v:Value}(hf:From w.heap.size v)(_:∀g,v.ownBlock=some g->g<w'.heap.size)(hu:Upd (fun j=>own j=2\/w.heap.size<=j) w w')
  (hd:Dv (fun j=>(own j=2\/w.heap.size<=j)/\∀g,v.ownBlock=some g->g≠j) w' ssd F O []):
  ∃own',Dvs own' w' ssd back F O G Q P/\Did own own' w w'/\∀g,v.ownBlock=some g->w.heap.size<=g/\own' g=0:=by
 have h1:=h.kx hu (hd.wide (fun j h=>h.1));have d1:=h.did2 hu;have hnw:∀j,j<w.heap.size->v.ownBlock≠some j:=fun j hj e=>by have:=hf j e;omega
 refine⟨fun j=>if v.ownBlock=some j then 0 else grow own 2 w.heap.size w'.heap.size j,⟨?_,?_,fun j hj=>?_,h1.nib,h1.tur,?_,?_⟩,⟨d1.upd,fun j hj=>?_,fun j hj=>?_,fun j hj=>?_⟩,fun g hg=>⟨hf g hg,by show(if v.ownBlock=some g then 0 else _)=0;rw[if_pos hg]⟩⟩
 .refine (Dv.kB _ _ _ _).out hd (fun j hj hs=>?_);show(if v.ownBlock=some j then 0 else grow own 2 w.heap.size w'.heap.size j)=2;rw[if_neg (fun e=>hs.2 j e rfl)];unfold grow;split
  .rfl
  .rcases hs.1 with h|h
   .exact h
   .omega
 .refine (Dv.kB _ _ _ _).out h1.back (fun j hj hs=>?_);show(if v.ownBlock=some j then 0 else grow own 2 w.heap.size w'.heap.size j)=3;rw[if_neg ?_]
  .exact hs
  .intro e;have:=hf j e;have hs:grow own 2 w.heap.size w'.heap.size j=3:=hs;unfold grow at hs;rw[if_pos ⟨this,hj⟩]at hs;cases hs
 .show (if v.ownBlock=some j then 0 else _)=0;split
  .rfl
  .exact d1.far j hj
 .show (if v.ownBlock=some _ then 0 else _)=0;split
  .rfl
  .exact h1.on
 .show (if v.ownBlock=some _ then 0 else _)=0;split
  .rfl
  .exact h1.ot
 .show (if v.ownBlock=some j then 0 else _)=_;rw[if_neg (hnw j hj)];exact d1.old j hj
 .show (if v.ownBlock=some j then 0 else _)<16;split
  .decide
  .exact d1.new j hj
 .show (if v.ownBlock=some j then 0 else _)=0;split
  .rfl
  .exact d1.far j hj
end
open Go Go.RowKit Go.Shelf Go.Lib Tryz
def A4Y(bad:Prop)(S:Nat->Prop)(w:World)(d s15:Nat)(F:List Bk)(O:List (Nat×Bk))(e:Ending)(w':World):Prop:=
 ∃cd,(cd=0\/bad/\cd=12)/\e=.returned (.int .i64 cd)/\∃w2,Dv S w2 d F O []/\Upd S w w2/\w'=w2.setCell ⟨s15,0,none⟩ (.slice none 0 0)
theorem zcR{bad:Prop}{S:Nat->Prop}{w:World}{li lc lf d base k s14 s15:Nat}{F:List Bk}{O:List (Nat×Bk)}{x:Value}(h:LgsY bad S w li lc lf d base k F O)(h14:w.heap[s14]?=some (.cells #[ptr li,ptr lc,ptr lf] 103 (0,0)))
  (h15:w.heap[s15]?=some (.cells #[x] 104 (0,0))) (o15:¬S s15):
  Calls prog 92 #[ptr s14,ptr s15] w (A4Y bad S w d s15 F O):=by
 have HW:=qqh (Eq h);have r14:w.rangeAt s14 0 [ptr li,ptr lc,ptr lf]:=zg h14;have H15:=Y2 h15 o15;clear h h14 h15 o15;go_enter func92,ntmps92
 go_wp2_with (first
  |(refine qYy rfl _ _ rfl _ _ rfl _ _ r14 underlying103 rfl yx ?_)
  |fail)
 refine HW.o.mono ?_;rintro e w2 ⟨cd,hcd,rfl,hd,hu⟩;have g2:=(hu.block _ (zd H15.o.1) H15.o.2).trans H15.o.1;have k2:=za g2 0;have f2:=zf g2 0;have HE:=Y3 hcd hd hu;clear hd hu g2 r14 HW hcd;go_wp2
 go_ret
 exact⟨cd,HE.o.1,rfl,w2,HE.o.2.1,HE.o.2.2,rfl⟩
end
section
theorem WN(F:List Bk)(O:List (Nat×Bk)):yU F O []=F:=by simp[yU]
end
end Go.Proofs.YtpejdgiccaijfaaGreatDoor
