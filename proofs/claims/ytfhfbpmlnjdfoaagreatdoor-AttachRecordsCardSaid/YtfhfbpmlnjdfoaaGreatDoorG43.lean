/- A log: Put. attach.Super, where nothing is pla -/
import Derived.Test.YtfhfbpmlnjdfoaaGreatDoorG42
set_option maxRecDepth 100000
set_option maxHeartbeats 2000000
namespace Go.Proofs.YtfhfbpmlnjdfoaaGreatDoor
open Go Go.RowKit
theorem zD{w:World}{p:Nat}{cs:Array Value}{t:TypeId}(h:w.heap[p]?=some (.cells cs t (0,0))){n:Nat}(hn:n<=cs.size):w.there p 0 n:=fun j hj=>by
 rw[za h,zf h];exact⟨by rw[qYe,qxe (by omega)];rfl,rfl⟩
theorem yn{w:World}{p:Nat}{x y:Bk}{t:TypeId}(h:w.heap[p]?=some (.cells (bkC x).toArray t (0,0)))(hx:x.length=64)(hy:y.length=64):(w.setCells p 0 (bkC y)).heap[p]?=some (.cells (bkC y).toArray t (0,0)):=by
 obtain⟨cur',h2,h3,h4⟩:=zG (bkC y) 0 w p _ t (0,0) h;rw[h2];have:cur'=(bkC y).toArray:=by
  apply qxd
  intro k;have e:(bkC y).toArray[k]?=(bkC y)[k]?:=by simp
  rw[h4 k,e,zo,hy,zl _ hx];by_cases hk:k<64
  .rw [if_pos ⟨by omega,by omega,by omega⟩];rfl
  .rw [if_neg (by omega),qxf (by rw[zl _ hx];omega),qyo (by rw[zo,hy];omega)]
 rw[this]
def qQ(T:Nat->Prop)(b:Nat)(F:List Bk)(O:List (Nat×Bk))(P:List Int)(s:Nat)(w2:World)(s8 s6:Value)(wx:World):Prop:=
 ∃q z cd,s8=.pointer (some ⟨q,0,none⟩)/\s6=.int .i64 cd/\wx.heap[q]?=some (.cells (bkC z).toArray 54 (0,0))/\w2.heap.size<=q/\z=(if fate P=1 then zB else curB F O s)/\cd=(if fate P=1 then 19 else 0)/\z.length=64/\
  Dv (fun j=>T j/\j≠q) wx b F O P.tail/\Upd T w2 wx
def Eu(S:Nat->Prop)(w:World)(b:Nat)(F:List Bk)(O:List (Nat×Bk))(r:List Value×Int)(e:Ending)(w':World):Prop:=e=.returned (.tuple #[.agg r.1.toArray,.int .i64 r.2])/\Dv S w' b F O []/\Upd S w w'
def supR(n:CaN)(F G:List Bk)(y:Bk):List Value×Int:=if okS y=true then(if F.length=n.size/\G.length=n.bl then(n.C,0)else(zeroS,22))else(zeroS,cdS y)
theorem Zq:∀w:World,(Instr.alloc 40 true (.tuple #[])).run Tryz.prog w=.ok (.pointer (some ⟨w.heap.size,0,none⟩)) (w.alloc (.cells zeroS.toArray 40)):=by
 intro w;kernel_rfl
theorem Zr:∀w:World,(Instr.build 40 #[]).run Tryz.prog w=.ok (.agg zeroS.toArray) w:=by
 intro w;kernel_rfl
theorem xP{ops:Array Oper}{rest:List Oper}{op:Oper}{a:Act}{w:World}{Q:Exit->Act->World->Prop}(hgd:op.guard=none)(t:TypeId)(ho:op.op=.build t #[]){v:Value}
  (hrun:∀w:World,(Instr.build t #[]).run Tryz.prog w=.ok v w)
  (h:wpList Tryz.prog ops Q rest (a.put op.dst v) w):wpList Tryz.prog ops Q (op::rest) a w:=by
 refine qZh hgd fun K' hK'=>?_;unfold Oper.wp;simp only[execOp,ho,qzp,qzo,qYm,hrun,qYl];exact hK' _ _ h
theorem Ev{y:Bk}(h:okS y=false):cdS y=12\/cdS y=13:=by
 unfold okS at h;unfold cdS yK;rw[h,if_neg (by simp)];split
 .exact .inl rfl
 .exact .inr rfl
theorem QR{S T:Nat->Prop}{w:World}{b bb:Nat}{F G:List Bk}{O Q:List (Nat×Bk)}{P:List Int}(hd:Dv S w b F O [])(hn:∀j,w.heap.size<=j->S j)(hb:Dv T w bb G Q P)(hT:∀j,T j->¬S j)(hN:Nib w)(hgS:¬S 0)(hF:0<F.length)
  (n:CaN) (hok:n.Ok) (hy:okS (curB F O 0)=true->dsS (natsI (numsS (curB F O 0)))=n.C):
  Calls Tryz.prog 21 #[ptr b,ptr bb] w (Eu S w b F O (supR n F G (curB F O 0))):=by
 obtain⟨Z,hZ⟩:=qqe (zeroS);have hal:=Zq;have hbu:=Zr;simp only[<-hZ]at hal hbu;have HZZ:Hid (Z=zeroS/\Z.length=7/\Z.toArray.size=7/\(Tryz.prog.info? 40).map (·.size)=some Z.toArray.size/\(Z.toArray).all (·.oneCell')=true/\(Tryz.prog.info? 40).map (·.size)=some Z.length/\∀u∈Z,u.oneCell'=true):=
  ⟨hZ,by rw[hZ];rfl,by rw[hZ];rfl,by rw[hZ];exact yo,by rw[hZ];exact zS_one,by rw[hZ];exact yo,by rw[hZ];exact qxw.1 (by simp[zeroS,Value.oneCell'])⟩
 obtain⟨y,hyy⟩:=qqe (curB F O 0);obtain⟨R,hR⟩:=qqe (supR n F G (curB F O 0));rw[<-hR];rw[<-hyy]at hR hy;have hyl:y.length=64:=by rw[hyy];exact tO hd.good 0
 obtain⟨w1,hw1⟩:=qqe (w.alloc (.cells Z.toArray 40));have hu1:Upd (fun _=>False) w w1:=by rw[hw1];exact(uur _ w).alloc _
 have g1:w1.heap[w.heap.size]?=some (.cells Z.toArray 40 (0,0)):=by rw[hw1];exact zc w _ rfl
 have z1:w1.heap.size=w.heap.size+1:=by rw[hw1];simp
 have hd1:=(hd.but (qXv _)).keep hu1 (fun _ _ h=>h);have hn1:∀j,w1.heap.size<=j->S j/\j≠w.heap.size:=fun j hj=>⟨hn j (by omega),by omega⟩
 have HRd:=qqh (xu hd1 hn1 0 hF);have H:=Y9 hd1 hn1 hb hT hN hgS hok hy hR;have H1:=Y6 hw1 hu1 g1 z1 hyy (hn _ (qXv _));have hsy:=zt y hyl;clear hd hn hb hT hN hgS hF hok hy hR hd1 hn1 hw1 hu1 g1 z1 hyy hZ;go_enter Tryz.func21,Tryz.ntmps21
 go_wp2_with (first
  |(refine zT rfl _ rfl _ hal ?_)
  |fail)
 rw[<-H1.o.1];refine HRd.out.mono ?_;rintro e w2 ⟨y2,cd2,rfl,hy2,hcd2,-,hd2,hu2⟩;rw[if_neg (by decide)]at hy2 hcd2;rw[<-H1.o.2.2.2.2.1]at hy2;subst hy2 hcd2;have g2:=(hu2.block _ (zd H1.o.2.2.1) (fun h=>h.2 rfl)).trans H1.o.2.2.1;obtain⟨w3,hw3⟩:=qqe (w2.alloc (.cells (bkC y2).toArray 54));have hu3:Upd (fun _=>False) w2 w3:=by rw[hw3];exact(uur _ w2).alloc _
 have r3:w3.rangeAt w2.heap.size 0 (bkC y2):=by rw[hw3];exact zg (zc w2 _ rfl)
 have U3:Upd (fun j=>S j/\j≠w.heap.size) w1 w3:=hu2.trans (hu3.mono (fun _ _ h=>h.elim));have hN3:Nib w3:=(H.o.2.2.2.2.1.keep H1.o.2.1 (fun h=>h)).keep U3 (fun h=>H.o.2.2.2.2.2.1 h.1);have HG:=qqh (QQ hN3 y2 hyl);have H3:=Y5 hw3 U3 (hd2.new hu3) (hu3.blockv g2) hN3;rw[hw3]at r3;clear hd2 hu2 g2 hu3 U3 hN3 hw3 HRd;go_wp2_with (first
  |(refine zk rfl _ _ _ rfl _ _ (bkC y2) rfl rfl (by rw[zo,hyl];rfl) hsy (zv y2) ?_)
  |(refine qZg rfl _ _ rfl _ _ rfl _ _ r3 Tryz.underlying54 rfl hsy ?_)
  |fail)
 rw[<-H3.o.1];refine HG.o.mono ?_;rintro e w4 ⟨⟨rs,hr1,hr2,rfl⟩,hb4⟩;have hu4:=qqb hb4;have hrs:Hid (rs.length=7/\∀v∈rs,v.oneCell'=true):=by
  cases hk:okS y2 with
  |true=>rw[hr1 hk];exact⟨Zo _,Zp _⟩
  |false=>rw[hr2 hk];exact⟨rfl,qxw.1 (by simp[zeroS,Value.oneCell']:zeroS.all (·.oneCell')=true)⟩
 have hsr:Hid ((Tryz.prog.info? 40).map (·.size)=some rs.length):=by show _=_;rw[hrs.out.1];exact yo
 obtain⟨w5,hw5⟩:=qqe (w4.alloc (.cells rs.toArray 40));have hu5:Upd (fun _=>False) w4 w5:=by rw[hw5];exact(uur _ w4).alloc _
 have U5:Upd (fun j=>S j/\j≠w.heap.size) w1 w5:=H3.o.2.1.trans ((hu4.trans hu5).mono (fun _ _ h=>h.elim));have d5:=H3.o.2.2.1.new (hu4.trans hu5);have g5:=(hu4.trans hu5).blockv H3.o.2.2.2.1;have r5:w5.rangeAt w4.heap.size 0 rs:=by rw[hw5];exact zg (zc w4 _ rfl)
 have tA:=zD (n:=7) g5 (by rw[HZZ.o.2.2.1];exact qXv _);have HE:Hid (∀W',Upd (fun j=>j=w.heap.size) w5 W'->Dv S W' b F O []/\Upd S w W'):=fun W' hu=>⟨(d5.keep hu (fun j h e=>h.2 e)).wide (fun j h=>h.1),((H1.o.2.1.mono (fun _ _ h=>h.elim)).trans (U5.mono (fun _ _ h=>h.1))).trans (hu.mono (fun j _ e=>by rw[e];exact H1.o.2.2.2.2.2))⟩
 have H5:=Y5 hw5 d5 g5 r5 U5;have HR12:=Y2 hr1 hr2;clear hb4 hu4 hu5 U5 d5 g5 r3 hr1 hr2 HG;rw[hw5]at tA r5;have tA7:(w4.alloc (.cells rs.toArray 40)).there w.heap.size 0 Z.toArray.size:=by rw[HZZ.o.2.2.1];exact tA
 cases hk:okS y2 with
 |false=>
  have e1:R=(zeroS,cdS y2):=by rw[H.o.2.2.2.2.2.2.2.2];unfold supR;rw[hk,if_neg (by simp)]
  have hcd:=Ev hk;have HK:=Y2 e1 hcd;have q0:¬cdS y2=0:=by rcases hcd with h|h<;>rw[h]<;>decide
  have q1:(cdS y2==0)=false:=by simpa using q0
  have q2:(cdS y2 !=0)=true:=by simpa using q0
  clear e1 hcd hw5 hk;generalize cdS y2=cd at*;go_wp2_with (first
   |(refine zT rfl _ rfl _ hal ?_)
   |(refine zk rfl _ _ _ rfl _ _ rs rfl rfl (by rw[HZZ.o.2.2.1,hrs.out.1]) hsr.out hrs.out.2 ?_)
   |(refine xP rfl _ rfl hbu ?_)
   |(refine qZi rfl _ _ _ rfl _ _ Z.toArray rfl rfl tA7 HZZ.o.2.2.2.1 HZZ.o.2.2.2.2.1 ?_)
   |fail)
  rw[HK.o.1];refine qYw (zn rfl _ _ w.heap.size 0 Z _ rfl (qYr _ _ _ _ (by rw[HZZ.o.2.1];exact tA)) Tryz.underlying40 rfl HZZ.o.2.2.2.2.2.1) rfl ?_;rw[<-H5.o.1];have h:=HE.o _ (zp w5 w.heap.size 0 Z);exact⟨by rw[HZZ.o.1];rfl,h.1,h.2⟩
 |true=>
  have e0:cdS y2=0:=by unfold okS at hk;unfold cdS yK;rw[hk,if_pos rfl]
  have er:rs=n.C:=(HR12.o.1 hk).trans (H.o.2.2.2.2.2.2.2.1 hk);have e1:R=if F.length=n.size/\G.length=n.bl then(n.C,0)else(zeroS,22):=by rw[H.o.2.2.2.2.2.2.2.2];unfold supR;rw[if_pos hk]
  have HK:=Y2 er e1;obtain⟨V,hV⟩:=qqe (layC n.sl n.jo n.pa n.lo);have HPl:Hid (Calls Tryz.prog 14 #[.agg rs.toArray] w5 fun e w'=>e=.returned (.tuple #[.agg V.toArray,.int .i64 0])/\Below w5.heap.size w5 w'):=by
   show Calls _ _ _ _ _;rw[er,hV];obtain⟨b1,b2,s1,s2,j1,j2,l1,l2,a1,a2,p1,p2,z⟩:=H.o.2.2.2.2.2.2.1;exact vO n.id n.bl n.sl n.jo n.pa n.lo n.ba b1 b2 s1 s2 j1 j2 l1 l2 a1 a2 p1 p2 z w5
  have hV7:V.length=7:=by rw[hV];rfl
  have HV:=Y4 (show(Tryz.prog.info? 43).map (·.size)=some V.length by rw[hV];exact xG) (show∀v∈V,v.oneCell'=true by rw[hV];exact uf _ _ _ _) hV7 hV;rw[e0];clear e0 er e1 hV hV7 hw5 hk;go_wp2_with (first
   |(refine zT rfl _ rfl _ hal ?_)
   |(refine zk rfl _ _ _ rfl _ _ rs rfl rfl (by rw[HZZ.o.2.2.1,hrs.out.1]) hsr.out hrs.out.2 ?_)
   |(refine qZg rfl _ _ rfl _ _ rfl _ _ r5 Tryz.underlying40 rfl hsr.out ?_)
   |fail)
  rw[<-H5.o.1];refine HPl.out.mono ?_;rintro e w6 ⟨rfl,hb6⟩;have hu6:=qqb hb6;obtain⟨w7,hw7⟩:=qqe (w6.alloc (.cells V.toArray 43));have hu7:Upd (fun _=>False) w6 w7:=by rw[hw7];exact(uur _ w6).alloc _
  have u57:=hu6.trans hu7;have g7:=u57.blockv H5.o.2.2.1;have r7:=u57.range H5.o.2.2.2.1 (fun h=>h);have v7:w7.rangeAt w6.heap.size 0 V:=by rw[hw7];exact zg (zc w6 _ rfl)
  have b7:=((H.o.2.2.1.new H1.o.2.1).keep H5.o.2.2.2.2 (fun j h h'=>H.o.2.2.2.1 j h h'.1)).new u57;have d7:=H5.o.2.1.new u57;have hM:=QG d7 b7 n.id n.bl n.sl n.jo n.pa n.lo n.ba;rw[show superC n.id n.bl n.sl n.jo n.pa n.lo n.ba=rs from HK.o.1.symm,<-HV.o.2.2.2]at hM;obtain⟨mc,hmc⟩:=qqe (qN F G (sizeN n.sl n.jo n.pa n.lo) n.bl);rw[<-hmc]at hM;replace hM:=qqh hM;have tA2:=zD (n:=7) g7 (by rw[HZZ.o.2.2.1];exact qXv _);have H7:=Y6 hw7 u57 g7 d7 hmc (show w5.heap.size<=w6.heap.size from hu6.size);have hV7:=HV.o.2.2.1;rw[hw7]at r7 v7 tA2;clear hb6 hu6 hu7 u57 g7 d7 b7 hw7 hmc tA tA7 r5;go_wp2_with (first
   |(refine zk rfl _ _ _ rfl _ _ V rfl rfl (by rw[hV7];rfl) HV.o.1 HV.o.2.1 ?_)
   |(refine qZg rfl _ _ rfl _ _ rfl _ _ r7 Tryz.underlying40 rfl hsr.out ?_)
   |(refine qZg rfl _ _ rfl _ _ rfl _ _ v7 Tryz.underlying43 rfl HV.o.1 ?_)
   |fail)
  rw[<-H7.o.1];refine hM.out.mono ?_;rintro e w8 ⟨rfl,hu8⟩;have g8:=hu8.blockv H7.o.2.2.1;have t8:=zD (n:=7) g8 (by rw[HZZ.o.2.2.1];exact qXv _);have r8:w8.rangeAt w4.heap.size 0 rs:=by
   have:=(H7.o.2.1.trans hu8).range H5.o.2.2.2.1 (fun h=>h);exact this
  have HE8:Hid (∀W',Upd (fun j=>j=w.heap.size) w8 W'->Dv S W' b F O []/\Upd S w W'):=fun W' hu=>HE.o W' ((((H7.o.2.1.trans hu8).mono (fun _ _ h=>h.elim))).trans hu)|>.imp (fun h=>h) (fun h=>h)
  clear hu8 g8 r7 v7 tA2 hM;by_cases hc:F.length=n.size/\G.length=n.bl
  .have e0:mc=0:=by rw[H7.o.2.2.2.2.1];exact if_pos hc
   have e2:R=(n.C,0):=by rw[HK.o.2,if_pos hc]
   have HX:=qqh e2;have t8r:w8.there w.heap.size 0 rs.toArray.size:=by rw[show rs.toArray.size=7 by simpa using hrs.out.1];exact t8
   have t8l:w8.there w.heap.size 0 rs.length:=by rw[hrs.out.1];exact t8
   have hs2:Hid ((Tryz.prog.info? 40).map (·.size)=some rs.toArray.size):=by show _=_;rw[show rs.toArray.size=7 by simpa using hrs.out.1];exact yo
   subst e0;clear e2 hc;go_wp2_with (first
    |(refine qZg rfl _ _ rfl _ _ rfl _ _ r8 Tryz.underlying40 rfl hsr.out ?_)
    |(refine qZi rfl _ _ _ rfl _ _ rs.toArray rfl rfl t8r hs2.out (qYu hrs.out.2) ?_)
    |fail)
   rw[HX.o];refine qYw (zn rfl _ _ w.heap.size 0 rs _ rfl (qYr _ _ _ _ t8l) Tryz.underlying40 rfl hsr.out) rfl ?_;have h:=HE8.o _ (zp w8 w.heap.size 0 rs);exact⟨by rw[HK.o.1];rfl,h.1,h.2⟩
  .have e0:mc=22:=by rw[H7.o.2.2.2.2.1];exact if_neg hc
   have e2:R=(zeroS,22):=by rw[HK.o.2,if_neg hc]
   have HX:=qqh e2;have t8z:w8.there w.heap.size 0 Z.toArray.size:=by rw[HZZ.o.2.2.1];exact t8
   subst e0;clear e2 hc;go_wp2_with (first
    |(refine xP rfl _ rfl hbu ?_)
    |(refine qZi rfl _ _ _ rfl _ _ Z.toArray rfl rfl t8z HZZ.o.2.2.2.1 HZZ.o.2.2.2.2.1 ?_)
    |fail)
   rw[HX.o];refine qYw (zn rfl _ _ w.heap.size 0 Z _ rfl (qYr _ _ _ _ (by rw[HZZ.o.2.1];exact t8)) Tryz.underlying40 rfl HZZ.o.2.2.2.2.2.1) rfl ?_;have h:=HE8.o _ (zp w8 w.heap.size 0 Z);exact⟨by rw[HZZ.o.1];rfl,h.1,h.2⟩
end Go.Proofs.YtfhfbpmlnjdfoaaGreatDoor
