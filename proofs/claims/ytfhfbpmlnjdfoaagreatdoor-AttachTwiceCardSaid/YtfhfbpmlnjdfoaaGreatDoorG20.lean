/- attach.Super, -/
import Derived.Test.YtfhfbpmlnjdfoaaGreatDoorG19
set_option maxRecDepth 100000
set_option maxHeartbeats 4000000
namespace Go.Proofs.YtfhfbpmlnjdfoaaGreatDoor
open Go Go.RowKit Tryz
def AC(S:Nat->Prop)(w:World)(b:Nat)(F:List Bk)(O:List (Nat×Bk))(r:List Value×Int)(e:Ending)(w':World):Prop:=e=.returned (.tuple #[.agg r.1.toArray,.int .i64 r.2])/\Dv S w' b F O []/\Upd S w w'
def supR(n:CaN)(F G:List Bk)(y:Bk):List Value×Int:=if okS y=true then(if F.length=n.size/\G.length=n.bl then(n.C,0)else(zeroS,22))else(zeroS,cdS y)
theorem ZF:∀w:World,(Instr.alloc 40 true (.tuple #[])).run prog w=.ok (.pointer (some ⟨w.heap.size,0,none⟩)) (w.alloc (.cells zeroS.toArray 40)):=by
 intro w;kernel_rfl
theorem ZG:∀w:World,(Instr.build 40 #[]).run prog w=.ok (.agg zeroS.toArray) w:=by
 intro w;kernel_rfl
theorem xH{ops:Array Oper}{rest:List Oper}{op:Oper}{a:Act}{w:World}{Q:Exit->Act->World->Prop}(hgd:op.guard=none)(t:TypeId)(ho:op.op=.build t #[]){v:Value}
  (hrun:∀w:World,(Instr.build t #[]).run prog w=.ok v w)
  (h:wpList prog ops Q rest (a.put op.dst v) w):wpList prog ops Q (op::rest) a w:=by
 refine qZh hgd fun K' hK'=>?_;unfold Oper.wp;simp only[execOp,ho,qzp,qzo,qYm,hrun,qYl];exact hK' _ _ h
theorem AD{y:Bk}(h:okS y=false):cdS y=12\/cdS y=13:=by
 unfold okS at h;unfold cdS xe;rw[h,if_neg (by simp)];split
 .exact .inl rfl
 .exact .inr rfl
theorem QY{S T:Nat->Prop}{w:World}{b bb:Nat}{F G:List Bk}{O Q:List (Nat×Bk)}{P:List Int}(hd:Dv S w b F O [])(hn:∀j,w.heap.size<=j->S j)(hb:Dv T w bb G Q P)(hT:∀j,T j->¬S j)(hN:Nib w)(hgS:¬S 0)(hF:0<F.length)
  (n:CaN) (hok:n.Ok) (hy:okS (curB F O 0)=true->dsS (natsI (numsS (curB F O 0)))=n.C):
  Calls prog 21 #[ptr b,ptr bb] w (AC S w b F O (supR n F G (curB F O 0))):=by
 obtain⟨Z,hZ⟩:=qqe (zeroS);have hal:=ZF;have hbu:=ZG;simp only[<-hZ]at hal hbu;have HZZ:Hid (Z=zeroS/\Z.length=7/\Z.toArray.size=7/\(prog.info? 40).map (·.size)=some Z.toArray.size/\(Z.toArray).all (·.oneCell')=true/\(prog.info? 40).map (·.size)=some Z.length/\∀u∈Z,u.oneCell'=true):=
  ⟨hZ,by rw[hZ];rfl,by rw[hZ];rfl,by rw[hZ];exact yw,by rw[hZ];exact qT,by rw[hZ];exact yw,by rw[hZ];exact qxw.1 (by simp[zeroS,Value.oneCell'])⟩
 obtain⟨y,hyy⟩:=qqe (curB F O 0);obtain⟨R,hR⟩:=qqe (supR n F G (curB F O 0));rw[<-hR];rw[<-hyy]at hR hy;have hyl:y.length=64:=by rw[hyy];exact qr hd.good 0
 obtain⟨w1,hw1⟩:=qqe (w.alloc (.cells Z.toArray 40));have hu1:=qqu hw1;have g1:=qqg hw1;have z1:w1.heap.size=w.heap.size+1:=by rw[hw1];simp
 have hd1:=(hd.but (qXv _)).keep hu1 (fun _ _ h=>h);have hn1:∀j,w1.heap.size<=j->S j/\j≠w.heap.size:=fun j hj=>⟨hn j (by omega),by omega⟩
 have HRd:=qqh (vL hd1 hn1 0 hF);have H:=Y9 hd1 hn1 hb hT hN hgS hok hy hR;have H1:=Y6 hw1 hu1 g1 z1 hyy (hn _ (qXv _));have hsy:=zw y hyl;clear hd hn hb hT hN hgS hF hok hy hR hd1 hn1 hw1 hu1 g1 z1 hyy hZ;go_enter func21,ntmps21
 go_wp2_with (first
  |(refine zZ rfl _ rfl _ hal ?_)
  |fail)
 rw[<-H1.o.1];refine HRd.out.mono ?_;rintro e w2 ⟨y2,cd2,rfl,hy2,hcd2,-,hd2,hu2⟩;rw[if_neg (by decide)]at hy2 hcd2;rw[<-H1.o.2.2.2.2.1]at hy2;subst hy2 hcd2;have g2:=(hu2.block _ (zf H1.o.2.2.1) (fun h=>h.2 rfl)).trans H1.o.2.2.1;obtain⟨w3,hw3⟩:=qqe (w2.alloc (.cells (bkC y2).toArray 54));have hu3:=qqu hw3;have r3:w3.rangeAt w2.heap.size 0 (bkC y2):=by rw[hw3];exact zh (zc w2 _ rfl)
 have U3:Upd (fun j=>S j/\j≠w.heap.size) w1 w3:=hu2.trans (hu3.mono (fun _ _ h=>h.elim));have hN3:Nib w3:=(H.o.2.2.2.2.1.keep H1.o.2.1 (fun h=>h)).keep U3 (fun h=>H.o.2.2.2.2.2.1 h.1);have HG:=qqh (QU hN3 y2 hyl);have H3:=Y5 hw3 U3 (hd2.new hu3) (hu3.jc g2) hN3;rw[hw3]at r3;clear hd2 hu2 g2 hu3 U3 hN3 hw3 HRd;go_wp2_with (first
  |(refine zk rfl _ _ _ rfl _ _ (bkC y2) rfl rfl (by rw[zn,hyl];rfl) hsy (zv y2) ?_)
  |(refine qZg rfl _ _ rfl _ _ rfl _ _ r3 underlying54 rfl hsy ?_)
  |fail)
 rw[<-H3.o.1];refine HG.o.mono ?_;rintro e w4 ⟨⟨rs,hr1,hr2,rfl⟩,hb4⟩;have hu4:=qqb hb4;have hrs:Hid (rs.length=7/\∀v∈rs,v.oneCell'=true):=by
  cases hk:okS y2 with
  |true=>rw[hr1 hk];exact⟨qd _,qe _⟩
  |false=>rw[hr2 hk];exact⟨rfl,qxw.1 (by simp[zeroS,Value.oneCell']:zeroS.all (·.oneCell')=true)⟩
 have hsr:Hid ((prog.info? 40).map (·.size)=some rs.length):=by show _=_;rw[hrs.out.1];exact yw
 obtain⟨w5,hw5⟩:=qqe (w4.alloc (.cells rs.toArray 40));have hu5:=qqu hw5;have U5:Upd (fun j=>S j/\j≠w.heap.size) w1 w5:=H3.o.2.1.trans ((hu4.trans hu5).mono (fun _ _ h=>h.elim));have d5:=H3.o.2.2.1.new (hu4.trans hu5);have g5:=(hu4.trans hu5).jc H3.o.2.2.2.1;have r5:w5.rangeAt w4.heap.size 0 rs:=by rw[hw5];exact zh (zc w4 _ rfl)
 have tA:=zO (n:=7) g5 (by rw[HZZ.o.2.2.1];exact qXv _);have HE:Hid (∀W',Upd (fun j=>j=w.heap.size) w5 W'->Dv S W' b F O []/\Upd S w W'):=fun W' hu=>⟨(d5.keep hu (fun j h e=>h.2 e)).wide (fun j h=>h.1),((H1.o.2.1.mono (fun _ _ h=>h.elim)).trans (U5.mono (fun _ _ h=>h.1))).trans (hu.mono (fun j _ e=>by rw[e];exact H1.o.2.2.2.2.2))⟩
 have H5:=Y5 hw5 d5 g5 r5 U5;have HR12:=Y2 hr1 hr2;clear hb4 hu4 hu5 U5 d5 g5 r3 hr1 hr2 HG;rw[hw5]at tA r5;have tA7:(w4.alloc (.cells rs.toArray 40)).there w.heap.size 0 Z.toArray.size:=by rw[HZZ.o.2.2.1];exact tA
 cases hk:okS y2 with
 |false=>
  have e1:R=(zeroS,cdS y2):=by rw[H.o.2.2.2.2.2.2.2.2];unfold supR;rw[hk,if_neg (by simp)]
  have hcd:=AD hk;have HK:=Y2 e1 hcd;have q0:¬cdS y2=0:=by rcases hcd with h|h<;>rw[h]<;>decide
  have q1:(cdS y2==0)=false:=by simpa using q0
  have q2:(cdS y2 !=0)=true:=by simpa using q0
  clear e1 hcd hw5 hk;generalize cdS y2=cd at*;go_wp2_with (first
   |(refine zZ rfl _ rfl _ hal ?_)
   |(refine zk rfl _ _ _ rfl _ _ rs rfl rfl (by rw[HZZ.o.2.2.1,hrs.out.1]) hsr.out hrs.out.2 ?_)
   |(refine xH rfl _ rfl hbu ?_)
   |(refine qZi rfl _ _ _ rfl _ _ Z.toArray rfl rfl tA7 HZZ.o.2.2.2.1 HZZ.o.2.2.2.2.1 ?_)
   |fail)
  rw[HK.o.1];refine qYw (zp rfl _ _ w.heap.size 0 Z _ rfl (qYr _ _ _ _ (by rw[HZZ.o.2.1];exact tA)) underlying40 rfl HZZ.o.2.2.2.2.2.1) rfl ?_;rw[<-H5.o.1];have h:=HE.o _ (zq w5 w.heap.size 0 Z);exact⟨by rw[HZZ.o.1];rfl,h.1,h.2⟩
 |true=>
  have e0:cdS y2=0:=by unfold okS at hk;unfold cdS xe;rw[hk,if_pos rfl]
  have er:rs=n.C:=(HR12.o.1 hk).trans (H.o.2.2.2.2.2.2.2.1 hk);have e1:R=if F.length=n.size/\G.length=n.bl then(n.C,0)else(zeroS,22):=by rw[H.o.2.2.2.2.2.2.2.2];unfold supR;rw[if_pos hk]
  have HK:=Y2 er e1;obtain⟨V,hV⟩:=qqe (layC n.sl n.jo n.pa n.lo);have HPl:Hid (Calls prog 14 #[.agg rs.toArray] w5 fun e w'=>e=.returned (.tuple #[.agg V.toArray,.int .i64 0])/\Below w5.heap.size w5 w'):=by
   show Calls _ _ _ _ _;rw[er,hV];obtain⟨b1,b2,s1,s2,j1,j2,l1,l2,a1,a2,p1,p2,z⟩:=H.o.2.2.2.2.2.2.1;exact vY n.id n.bl n.sl n.jo n.pa n.lo n.ba b1 b2 s1 s2 j1 j2 l1 l2 a1 a2 p1 p2 z w5
  have hV7:V.length=7:=by rw[hV];rfl
  have HV:=Y4 (show(prog.info? 43).map (·.size)=some V.length by rw[hV];exact xB) (show∀v∈V,v.oneCell'=true by rw[hV];exact uu _ _ _ _) hV7 hV;rw[e0];clear e0 er e1 hV hV7 hw5 hk;go_wp2_with (first
   |(refine zZ rfl _ rfl _ hal ?_)
   |(refine zk rfl _ _ _ rfl _ _ rs rfl rfl (by rw[HZZ.o.2.2.1,hrs.out.1]) hsr.out hrs.out.2 ?_)
   |(refine qZg rfl _ _ rfl _ _ rfl _ _ r5 underlying40 rfl hsr.out ?_)
   |fail)
  rw[<-H5.o.1];refine HPl.out.mono ?_;rintro e w6 ⟨rfl,hb6⟩;have hu6:=qqb hb6;obtain⟨w7,hw7⟩:=qqe (w6.alloc (.cells V.toArray 43));have hu7:=qqu hw7;have u57:=hu6.trans hu7;have g7:=u57.jc H5.o.2.2.1;have r7:=u57.range H5.o.2.2.2.1 (fun h=>h);have v7:w7.rangeAt w6.heap.size 0 V:=by rw[hw7];exact zh (zc w6 _ rfl)
  have b7:=((H.o.2.2.1.new H1.o.2.1).keep H5.o.2.2.2.2 (fun j h h'=>H.o.2.2.2.1 j h h'.1)).new u57;have d7:=H5.o.2.1.new u57;have hM:=TY d7 b7 n.id n.bl n.sl n.jo n.pa n.lo n.ba;rw[show superC n.id n.bl n.sl n.jo n.pa n.lo n.ba=rs from HK.o.1.symm,<-HV.o.2.2.2]at hM;obtain⟨mc,hmc⟩:=qqe (qu F G (sizeN n.sl n.jo n.pa n.lo) n.bl);rw[<-hmc]at hM;replace hM:=qqh hM;have tA2:=zO (n:=7) g7 (by rw[HZZ.o.2.2.1];exact qXv _);have H7:=Y6 hw7 u57 g7 d7 hmc (show w5.heap.size<=w6.heap.size from hu6.size);have hV7:=HV.o.2.2.1;rw[hw7]at r7 v7 tA2;clear hb6 hu6 hu7 u57 g7 d7 b7 hw7 hmc tA tA7 r5;go_wp2_with (first
   |(refine zk rfl _ _ _ rfl _ _ V rfl rfl (by rw[hV7];rfl) HV.o.1 HV.o.2.1 ?_)
   |(refine qZg rfl _ _ rfl _ _ rfl _ _ r7 underlying40 rfl hsr.out ?_)
   |(refine qZg rfl _ _ rfl _ _ rfl _ _ v7 underlying43 rfl HV.o.1 ?_)
   |fail)
  rw[<-H7.o.1];refine hM.out.mono ?_;rintro e w8 ⟨rfl,hu8⟩;have g8:=hu8.jc H7.o.2.2.1;have t8:=zO (n:=7) g8 (by rw[HZZ.o.2.2.1];exact qXv _);have r8:w8.rangeAt w4.heap.size 0 rs:=by
   have:=(H7.o.2.1.trans hu8).range H5.o.2.2.2.1 (fun h=>h);exact this
  have HE8:Hid (∀W',Upd (fun j=>j=w.heap.size) w8 W'->Dv S W' b F O []/\Upd S w W'):=fun W' hu=>HE.o W' ((((H7.o.2.1.trans hu8).mono (fun _ _ h=>h.elim))).trans hu)|>.imp (fun h=>h) (fun h=>h)
  clear hu8 g8 r7 v7 tA2 hM;by_cases hc:F.length=n.size/\G.length=n.bl
  .have e0:mc=0:=by rw[H7.o.2.2.2.2.1];exact if_pos hc
   have e2:R=(n.C,0):=by rw[HK.o.2,if_pos hc]
   have HX:=qqh e2;have t8r:w8.there w.heap.size 0 rs.toArray.size:=by rw[show rs.toArray.size=7 by simpa using hrs.out.1];exact t8
   have t8l:w8.there w.heap.size 0 rs.length:=by rw[hrs.out.1];exact t8
   have hs2:Hid ((prog.info? 40).map (·.size)=some rs.toArray.size):=by show _=_;rw[show rs.toArray.size=7 by simpa using hrs.out.1];exact yw
   subst e0;clear e2 hc;go_wp2_with (first
    |(refine qZg rfl _ _ rfl _ _ rfl _ _ r8 underlying40 rfl hsr.out ?_)
    |(refine qZi rfl _ _ _ rfl _ _ rs.toArray rfl rfl t8r hs2.out (qYu hrs.out.2) ?_)
    |fail)
   rw[HX.o];refine qYw (zp rfl _ _ w.heap.size 0 rs _ rfl (qYr _ _ _ _ t8l) underlying40 rfl hsr.out) rfl ?_;have h:=HE8.o _ (zq w8 w.heap.size 0 rs);exact⟨by rw[HK.o.1];rfl,h.1,h.2⟩
  .have e0:mc=22:=by rw[H7.o.2.2.2.2.1];exact if_neg hc
   have e2:R=(zeroS,22):=by rw[HK.o.2,if_neg hc]
   have HX:=qqh e2;have t8z:w8.there w.heap.size 0 Z.toArray.size:=by rw[HZZ.o.2.2.1];exact t8
   subst e0;clear e2 hc;go_wp2_with (first
    |(refine xH rfl _ rfl hbu ?_)
    |(refine qZi rfl _ _ _ rfl _ _ Z.toArray rfl rfl t8z HZZ.o.2.2.2.1 HZZ.o.2.2.2.2.1 ?_)
    |fail)
   rw[HX.o];refine qYw (zp rfl _ _ w.heap.size 0 Z _ rfl (qYr _ _ _ _ (by rw[HZZ.o.2.1];exact t8)) underlying40 rfl HZZ.o.2.2.2.2.2.1) rfl ?_;have h:=HE8.o _ (zq w8 w.heap.size 0 Z);exact⟨by rw[HZZ.o.1];rfl,h.1,h.2⟩
theorem wP{P:Prop}(h:P:=by
 obtain⟨Z,hZ⟩:∃Z:List Value,Z=zL:=⟨_,rfl⟩
 have hal:=WA;rw[<-hZ];simp only[<-hZ]at hal;have HZZ:Hid (Z=zL/\Z.length=n1z/\Z.toArray.size=n1z/\(prog.info? n2z).map (·.size)=some Z.toArray.size/\(Z.toArray).all (·.oneCell')=true/\(prog.info? n2z).map (·.size)=some Z.length/\∀u∈Z,u.oneCell'=true):=⟨hZ,by rw[hZ];rfl,by rw[hZ];rfl,by rw[hZ];exact q3z,by rw[hZ];exact QZ,by rw[hZ];exact q3z,by rw[hZ];exact ZH⟩
 clear hZ;have hgA:((w.alloc (.cells Z.toArray n2z)).alloc (.cells Z.toArray n2z)).heap[w.heap.size]?=some (.cells Z.toArray n2z):=by rw[qxk _ _ _ (by simp)];exact zc w _ rfl
 have hgB:((w.alloc (.cells Z.toArray n2z)).alloc (.cells Z.toArray n2z)).heap[w.heap.size+1]?=some (.cells Z.toArray n2z):=zc _ _ (by simp);have hu1:Upd (fun _=>False) w ((w.alloc (.cells Z.toArray n2z)).alloc (.cells Z.toArray n2z)):=((uur _ w).alloc _).alloc _;have hs1:((w.alloc (.cells Z.toArray n2z)).alloc (.cells Z.toArray n2z)).heap.size=w.heap.size+2:=by simp
 have hl1:=hl.keep hu1 (fun h=>h);have hN1:=hN.keep hu1 (fun h=>h);have hfl:=hd.good.fl;obtain⟨c0,c1,c2,-,c4,-⟩:=hl1.c;have hd1:Dv (fun j=>S j/\j≠w.heap.size/\j≠w.heap.size+1) ((w.alloc (.cells Z.toArray n2z)).alloc (.cells Z.toArray n2z)) b F O P:=
  (((hd.but (qXv _)).but (q:=w.heap.size+1) (by omega)).keep hu1 (fun _ _ h=>h)).wide (fun j h=>⟨h.1.1,h.1.2,h.2⟩)
 have hn1:∀j,w.heap.size+2<=j->S j/\j≠w.heap.size/\j≠w.heap.size+1:=fun j hj=>⟨hn j (by omega),by omega,by omega⟩
 have HAS:Hid (S w.heap.size):=hn _ (qXv _);have hllt:=hl.lt;have HL:=Y8 hl1 hN1 hu1 hd1 hn1 hSl hSN hs1;clear hl hd hn hSl hN hSN hl1 hN1 hu1 hd1 hn1;go_enter q4z,q5z
 .have z1:decide ((an:Int)<0)=false:=by simp
  have z2:decide ((n:Int)<=(an:Int))=false:=by simp;omega
  go_wp2_with (first
   |(refine zZ rfl _ rfl _ hal ?_)
   |fail)
  generalize (w.alloc (.cells Z.toArray n2z)).alloc (.cells Z.toArray n2z)=w1 at*;obtain⟨T,hT⟩:∃T:Nat->Prop,T=fun j=>S j/\j≠w.heap.size/\j≠w.heap.size+1:=⟨_,rfl⟩
  obtain⟨hl1,hN1,hu1,hd1,hn1,hSl,hSN,-⟩:=HL.o;have hTS:∀j,T j->S j:=fun j h=>by rw[hT]at h;exact h.1
  have hTA:¬T w.heap.size:=fun h=>by rw[hT]at h;exact h.2.1 rfl
  have hTA':∀j,T j->j≠w.heap.size:=fun j h e=>hTA (e▸h);have hTB:¬T (w.heap.size+1):=fun h=>by rw[hT]at h;exact h.2.2 rfl
  have hTl:¬T l:=fun h=>hSl (hTS l h);have hTN:¬T 0:=fun h=>hSN (hTS _ h);rw[<-hT]at hd1;replace hn1:∀j,w1.heap.size<=j->T j:=fun j hj=>by rw[hT];exact hn1 j (by omega)
  have HT:=Y13 hTS hTA hTB hTl hTN hd1 hn1 hu1 hl1 hN1 hgA hgB hTA';have hl1lt:=hl1.lt;clear hT hTS hTA hTB hTl hTN hd1 hn1 hu1 hl1 hN1 hgA hgB hSl hSN hTA' hs1
  go_cut [7,8] (fun s7 s8 wx=>QX T b F O P (base+an) w1 s7 s8 wx)
  case first=>
   have e1:IntKind.i64.wrap ((base:Int)+(an:Int))=((base+an:Nat):Int):=qxv _ (by omega);refine qZj (S:=fun W=>W.cell? ⟨l,0,none⟩=some (.pointer (some ⟨b,0,none⟩))/\W.cell? ⟨l,1,none⟩=some (.int .i64 (base:Int))) (by kernel_rfl) (⟨by rw[qYo];exact c0,by rw[qYo];exact c1⟩) (fun hHeld=>?_);refine Wl.i [0,1,2,3,4,5,6,7,8,9] ?_;iterate 10 refine Wl.t hHeld ?_
   refine Wl.o ?_;refine qZe (rs:=[10,14]) (by kernel_rfl) (by simp) ?_;refine qxb rfl (fun K hK=>?_) (qxb rfl (fun K hK=>?_) qxc)
   .go_simp
    refine(vL (HT.o.2.2.2.2.2.1.keep ((uur (fun _=>False) w1).drew) (fun _ _ h=>h)) (HT.o.2.2.2.2.2.2.1) (base+an) (by omega)).mono ?_;rintro e w7 ⟨z2,cd2,rfl,hz2,hcd2,hz2l,hd7,hu7⟩;have HZ2:=Y2 hz2 hcd2;clear hz2 hcd2;refine hK.o _ _ (⟨hu7.ja hHeld.1 HT.o.2.2.2.1,hu7.ja hHeld.2 HT.o.2.2.2.1⟩) (fun hHeld2=>?_);clear hK K;refine Wl.i [11,12,13] ?_;iterate 3 refine Wl.t hHeld2 ?_
    refine Wl.o ?_;refine Wl.r 14 (fun K hK=>?_);go_simp
    show K _ (w7.alloc (.cells (bkC zB).toArray 54));have hg8:=zc w7 (.cells (bkC zB).toArray 54) rfl;have hu8:Upd (fun _=>False) w7 (w7.alloc (.cells (bkC zB).toArray 54)):=(uur _ _).alloc _;have hw67:w1.heap.size<=w7.heap.size:=hu7.size;have hd8:=(hd7.but (qXv _)).keep hu8 (fun _ _ h=>h);have hU8:Upd T w1 (w7.alloc (.cells (bkC zB).toArray 54)):=((uur _ w1).drew.trans hu7).trans (hu8.mono (fun _ _ h=>h.elim));refine hK.o _ _ (⟨hu8.ja hHeld2.1 (fun h=>h),hu8.ja hHeld2.2 (fun h=>h)⟩) (fun hHeld3=>?_);clear hK K;generalize w7.heap.size=q at*;generalize w7.alloc (.cells (bkC zB).toArray 54)=w8 at*;refine Wl.r 15 (fun K hK=>?_);rw[if_pos (by rfl)];refine qZk _ _ _ rfl _ _ (List.toArray _) rfl rfl (by rw[zo _ hz2l];exact zO hg8 (by rw[zo _ zH];exact qXv _)) (by rw[zo _ hz2l];exact zM) (qYu (zv _)) ?_;simp only[Act.put,qXi];refine hK.o _ _ (⟨zX hHeld3.1 (by omega),zX hHeld3.2 (by omega)⟩) (fun hHeld4=>?_);clear hK K;refine Wl.r 16 (fun K hK=>?_);go_simp
    refine hK.o _ _ (hHeld4) (fun _=>?_);clear hK K;refine Wl.d ?_;clear hHeld4 e1;go_wp2_with fail
    go_meet
    case rel=>exact⟨q,z2,cd2,rfl,rfl,wO hg8 zH hz2l,hw67,HZ2.o.1,HZ2.o.2,hz2l,hd8.keep (zq w8 q 0 (bkC z2)) (fun j h e=>h.2 e),hU8.trans ((zq w8 q 0 (bkC z2)).mono (fun j _ e=>e▸HT.o.2.2.2.2.2.2.1 _ hw67))⟩
   .go_simp
    show K _ (w1.drew.alloc (.cells (bkC zB).toArray 54));have hg7:(w1.drew.alloc (.cells (bkC zB).toArray 54)).heap[w1.heap.size]?=some (.cells (bkC zB).toArray 54):=zc w1.drew _ rfl;have hu7a:Upd (fun _=>False) w1 (w1.drew.alloc (.cells (bkC zB).toArray 54)):=((uur _ w1).drew).alloc _;have hd7a:Dv (fun j=>T j/\j≠w1.heap.size) (w1.drew.alloc (.cells (bkC zB).toArray 54)) b F O P:=(HT.o.2.2.2.2.2.1.but (qXv _)).keep hu7a (fun _ _ h=>h);have hs7a:(w1.drew.alloc (.cells (bkC zB).toArray 54)).heap.size=w1.heap.size+1:=by simp
    refine hK.o _ _ (⟨hu7a.ja c0 (fun h=>h),hu7a.ja c1 (fun h=>h)⟩) (fun hHeld2=>?_);clear hK K;generalize w1.drew.alloc (.cells (bkC zB).toArray 54)=w7a at*;refine Wl.r 10 (fun K hK=>?_);go_simp
    refine(vL (hd7a) (fun j hj=>⟨HT.o.2.2.2.2.2.2.1 j (by omega),by omega⟩) (base+an) (by omega)).mono ?_;rintro e w7 ⟨z2,cd2,rfl,hz2,hcd2,hz2l,hd7,hu7⟩;have HZ2:=Y2 hz2 hcd2;clear hz2 hcd2;have hg8:=(hu7.block w1.heap.size (zf hg7) (fun h=>h.2 rfl)).trans hg7;refine hK.o _ _ (⟨hu7.ja hHeld2.1 (fun h=>HT.o.2.2.2.1 h.1),hu7.ja hHeld2.2 (fun h=>HT.o.2.2.2.1 h.1)⟩) (fun hHeld3=>?_);clear hK K;refine Wl.i [11,12,13] ?_;iterate 3 refine Wl.t hHeld3 ?_
    refine Wl.o ?_;refine Wl.r 15 (fun K hK=>?_);rw[if_pos (by rfl)];refine qZk _ _ _ rfl _ _ (List.toArray _) rfl rfl (by rw[zo _ hz2l];exact zO hg8 (by rw[zo _ zH];exact qXv _)) (by rw[zo _ hz2l];exact zM) (qYu (zv _)) ?_;simp only[Act.put,qXi];refine hK.o _ _ (⟨zX hHeld3.1 (by omega),zX hHeld3.2 (by omega)⟩) (fun hHeld4=>?_);clear hK K;refine Wl.r 16 (fun K hK=>?_);go_simp
    refine hK.o _ _ (hHeld4) (fun _=>?_);clear hK K;refine Wl.d ?_;clear hHeld4 e1;go_wp2_with fail
    go_meet
    case rel=>exact⟨w1.heap.size,z2,cd2,rfl,rfl,wO hg8 zH hz2l,qXv _,HZ2.o.1,HZ2.o.2,hz2l,hd7.keep (zq w7 w1.heap.size 0 (bkC z2)) (fun j h e=>h.2 e),((hu7a.mono (fun _ _ h=>h.elim)).trans (hu7.mono (fun j _ h=>h.1))).trans ((zq w7 w1.heap.size 0 (bkC z2)).mono (fun j _ e=>e▸HT.o.2.2.2.2.2.2.1 _ (qXv _)))⟩
  case rest=>
   obtain⟨q,v,cd2,rfl,rfl,hgq,hq,hv,hcd2,hvl,hdx,hux⟩:=hcut;have hgA:=(hux.block _ (zf HT.o.2.2.2.2.2.2.2.2.2.2.1) HT.o.2.1).trans HT.o.2.2.2.2.2.2.2.2.2.2.1;have hgB:=(hux.block _ (zf HT.o.2.2.2.2.2.2.2.2.2.2.2.1) HT.o.2.2.1).trans HT.o.2.2.2.2.2.2.2.2.2.2.2.1;have hlx:=HT.o.2.2.2.2.2.2.2.2.1.keep hux HT.o.2.2.2.1;have hNx:=HT.o.2.2.2.2.2.2.2.2.2.1.keep hux HT.o.2.2.2.2.1;have hUx:Upd S w wc:=(HT.o.2.2.2.2.2.2.2.1.mono (fun _ _ h=>h.elim)).trans (hux.mono (fun j _ h=>HT.o.1 j h));have hdT:Dv T wc b F O P.tail:=hdx.wide (fun j h=>h.1);have rq:=zh hgq;have c4':=hlx.c.2.2.2.2.1;have HQ:=Y9 hdT hUx hlx hNx hgA hgB hvl hv hcd2;have hqlt:=zf hgq;have hAlt:=zf hgA;have hBlt:=zf hgB;have hllx:=hlx.lt;have rB:=zh hgB;have tA:=zO (n:=n1z) hgA (by rw[HZZ.o.2.2.1];exact qXv _);clear hgq hq hv hcd2 hvl hdx hux hlx hNx hUx hdT hgA hgB c0 c1 c2 c4;have e0:cd2=0:=by rw[HQ.o.2.2.2.2.2.2.2.2,if_neg hf]
   have ez:v=curB F O (base+an):=by rw[HQ.o.2.2.2.2.2.2.2.1,if_neg hf]
   subst e0;have h0:v=zB:=ez.trans hz;have hq0:∀W,(Op.equalIn 10000 54 (.agg (bkC v).toArray) (.agg #[.int .u8 0,.int .u8 0,.int .u8 0,.int .u8 0,.int .u8 0,.int .u8 0,.int .u8 0,.int .u8 0,.int .u8 0,.int .u8 0,.int .u8 0,.int .u8 0,.int .u8 0,.int .u8 0,.int .u8 0,.int .u8 0,.int .u8 0,.int .u8 0,.int .u8 0,.int .u8 0,.int .u8 0,.int .u8 0,.int .u8 0,.int .u8 0,.int .u8 0,.int .u8 0,.int .u8 0,.int .u8 0,.int .u8 0,.int .u8 0,.int .u8 0,.int .u8 0,.int .u8 0,.int .u8 0,.int .u8 0,.int .u8 0,.int .u8 0,.int .u8 0,.int .u8 0,.int .u8 0,.int .u8 0,.int .u8 0,.int .u8 0,.int .u8 0,.int .u8 0,.int .u8 0,.int .u8 0,.int .u8 0,.int .u8 0,.int .u8 0,.int .u8 0,.int .u8 0,.int .u8 0,.int .u8 0,.int .u8 0,.int .u8 0,.int .u8 0,.int .u8 0,.int .u8 0,.int .u8 0,.int .u8 0,.int .u8 0,.int .u8 0,.int .u8 0])).run prog W=.ok (v==zB) W:=Vm v zB HQ.o.2.2.2.2.2.2.1 zH;have hb0:(v==zB)=true:=by simpa using h0
   have HD:Hid (Dv (fun j=>T j/\j≠w.heap.size) wc b F O P.tail/\Upd S w wc):=⟨(HQ.o.1).wide (fun j h=>⟨h,HT.o.2.2.2.2.2.2.2.2.2.2.2.2 j h⟩),HQ.o.2.1⟩
   clear h0 ez;go_wp2_with (first
    |(refine qZg rfl _ _ rfl _ _ rfl _ _ rq underlying54 rfl (zw _ HQ.o.2.2.2.2.2.2.1) ?_)
    |(refine qZg rfl _ _ rfl _ _ rfl _ _ rB q6z rfl HZZ.o.2.2.2.2.2.1 ?_)
    |(refine qZi rfl _ _ _ rfl _ _ Z.toArray rfl rfl (by rw[HZZ.o.2.2.1];exact tA) HZZ.o.2.2.2.1 HZZ.o.2.2.2.2.1 ?_)
    |fail)
   refine qYw (zp rfl _ _ w.heap.size 0 Z _ rfl (qYr _ _ _ _ (by rw[HZZ.o.2.1];exact tA)) q6z rfl HZZ.o.2.2.2.2.2.1) rfl ?_;exact⟨rfl,HD.o.1.keep (zq _ w.heap.size 0 _) (fun j h e=>h.2 e)|>.wide (fun j h=>HT.o.1 j h.1),HD.o.2.trans ((zq _ w.heap.size 0 _).mono (fun j _ e=>e▸HAS.o))⟩):P:=h
theorem wQ{P:Prop}(h:P:=by
 have hfl:=hd.good.fl;obtain⟨-,-,c2,-⟩:=hl.c;have H:=Y7 hl hd hn hSl hN hSN hz;clear hl hd hn hSl hN hSN hz;go_enter q7z,q8z
 go_wp2
 go_step3
 go_wp2
 go_step3
 go_wp2
 go_loopg[4,5,15] n (fun gk s4 s5 s15 wr=>∃i:Nat,i+gk=n/\s15=.int .i64 i/\s5=.int .i64 0/\s4=.slice none 0 0/\Dv S wr b F O []/\Upd S w wr)
 case atStart=>exact⟨0,by omega,rfl,rfl,rfl,H.o.2.1,uur _ _⟩
 case round=>
  obtain⟨i,hi,rfl,rfl,rfl,hd,hU⟩:=hrel;obtain⟨hl,-,hn,hSl,hN,hSN,hz⟩:=H.o;by_cases hlt:i<n
  .have HG:=qqh (q9z (hl.keep hU hSl) hd (fun j hj=>hn j (qXx hU.size hj)) hSl (hN.keep hU hSN) hSN hbn (by decide) hlt (hz i hlt));have HU:=qqh hU;have k1:(i:Int)<(n:Int):=by omega
   clear hl hd hn hSl hN hSN hz hU;go_wp2_with fail
   refine HG.o.mono ?_;rintro e w9 ⟨rfl,hd9,hU9⟩;have H9:=Y2 hd9 (HU.o.trans hU9);clear hd9 hU9 HG;generalize hZZ:zL=Z at*;have hsz:Hid ((prog.info? n2z).map (·.size)=some Z.length/\Z.length=n1z/\∀u∈Z,u.oneCell'=true):=by subst hZZ;exact⟨q3z,rfl,ZH⟩
   replace hZZ:=qqh hZZ;go_wp2_with (first
    |(refine zk rfl _ _ _ rfl _ _ _ rfl rfl (by rw[hsz.out.2.1];rfl) hsz.out.1 hsz.out.2.2 ?_)
    |fail)
   obtain⟨hd9,hU9⟩:=H9.o;have hua:Upd (fun _=>False) w9 (w9.alloc (.cells Z.toArray n2z)):=(uur _ _).alloc _;have hd10:=hd9.new hua;have hU10:=hU9.trans (hua.mono (fun _ _ h=>h.elim));generalize w9.alloc (.cells Z.toArray n2z)=w10 at*;go_roundg (gk-1)
   case measure=>omega
   case rel=>exact⟨i+1,by omega,by go_num,rfl,rfl,hd10,hU10⟩
  .obtain rfl:i=n:=by omega
   have k1:¬((i:Int)<(i:Int)):=by omega
   have HE:=Y2 hd hU;clear hl hd hn hSl hN hSN hz hU;go_wp2_with fail
   try rw[qxr]
   go_ret2
   exact⟨rfl,HE.o.1,HE.o.2⟩):P:=h
def AE(S:Nat->Prop)(w:World)(b:Nat)(F:List Bk)(O:List (Nat×Bk))(P:List Int)(zs:List Value)(cd:Int)(e:Ending)(w':World):Prop:=
 e=.returned (.tuple #[.agg zs.toArray,.int .i64 cd])/\Dv S w' b F O P/\Upd S w w'
def US(S:Nat->Prop)(w:World)(b:Nat)(F:List Bk)(O:List (Nat×Bk))(cd:Int)(e:Ending)(w':World):Prop:=
 e=.returned (.tuple #[.slice none 0 0,.int .i64 cd])/\Dv S w' b F O []/\Upd S w w'
namespace fLogZI
def zL:List Value:=[Value.int .i64 0,Value.int .i64 0,Value.int .i64 0,Value.int .i64 0]
theorem QZ:(zL.toArray).all (·.oneCell')=true:=by simp[zL,Value.oneCell']
theorem ZH:∀u∈zL,u.oneCell'=true:=by intro u hu;simp[zL]at hu;subst hu;rfl
theorem WA(w:World):(Instr.alloc 154 true (.tuple #[])).run prog w=.ok (.pointer (some ⟨w.heap.size,0,none⟩)) (w.alloc (.cells zL.toArray 154)):=by
 kernel_rfl
end fLogZI
namespace fLogZI
abbrev n1z:Nat:=4
abbrev n2z:Nat:=154
theorem q3z:type_of% @Qd:= @Qd
theorem q4z:type_of% @func156:= @func156
theorem q5z:type_of% @ntmps156:= @ntmps156
theorem q6z:type_of% @underlying154:= @underlying154
end fLogZI
open fLogZI in
theorem VD{S:Nat->Prop}{w:World}{l b base n fi:Nat}{F:List Bk}{O:List (Nat×Bk)}{P:List Int}(hl:LogI w l b base n fi)(hd:Dv S w b F O P)(hn:∀j,w.heap.size<=j->S j)(hSl:¬S l)(hN:Nib w)
  (hSN:¬S 0) (hbn:base+n<=F.length) (hf:¬fate P=1) {an:Nat} (hann:an<n) (hz:curB F O (base+an)=zB):
  Calls prog 156 #[.pointer (some ⟨l,0,none⟩),.int .i64 (an:Int)] w (AE S w b F O P.tail zL 14):=wP
namespace fLogZI
theorem q7z:type_of% @func81:= @func81
theorem q8z:type_of% @ntmps81:= @ntmps81
theorem q9z:type_of% @VD:= @VD
end fLogZI
open fLogZI in
theorem JD{S:Nat->Prop}{w:World}{l b base n fi:Nat}{F:List Bk}{O:List (Nat×Bk)}(hl:LogI w l b base n fi)(hd:Dv S w b F O [])(hn:∀j,w.heap.size<=j->S j)(hSl:¬S l)(hN:Nib w)
  (hSN:¬S 0) (hbn:base+n<=F.length) (hz:∀i,i<n->curB F O (base+i)=zB):
  Calls prog 81 #[.pointer (some ⟨l,0,none⟩)] w (US S w b F O 0):=wQ
namespace fLogZC
def zL:List Value:=[Value.int .i64 0,Value.int .i64 0,Value.int .i64 0,Value.int .i64 0,Value.int .i64 0,Value.int .i64 0]
theorem QZ:(zL.toArray).all (·.oneCell')=true:=by simp[zL,Value.oneCell']
theorem ZH:∀u∈zL,u.oneCell'=true:=by intro u hu;simp[zL]at hu;subst hu;rfl
theorem WA(w:World):(Instr.alloc 159 true (.tuple #[])).run prog w=.ok (.pointer (some ⟨w.heap.size,0,none⟩)) (w.alloc (.cells zL.toArray 159)):=by
 kernel_rfl
end fLogZC
namespace fLogZC
abbrev n1z:Nat:=6
abbrev n2z:Nat:=159
theorem q3z:type_of% @QV:= @QV
theorem q4z:type_of% @func157:= @func157
theorem q5z:type_of% @ntmps157:= @ntmps157
theorem q6z:type_of% @underlying159:= @underlying159
end fLogZC
open fLogZC in
theorem VE{S:Nat->Prop}{w:World}{l b base n fi:Nat}{F:List Bk}{O:List (Nat×Bk)}{P:List Int}(hl:LogC w l b base n fi)(hd:Dv S w b F O P)(hn:∀j,w.heap.size<=j->S j)(hSl:¬S l)(hN:Nib w)
  (hSN:¬S 0) (hbn:base+n<=F.length) (hf:¬fate P=1) {an:Nat} (hann:an<n) (hz:curB F O (base+an)=zB):
  Calls prog 157 #[.pointer (some ⟨l,0,none⟩),.int .i64 (an:Int)] w (AE S w b F O P.tail zL 14):=wP
namespace fLogZC
theorem q7z:type_of% @func82:= @func82
theorem q8z:type_of% @ntmps82:= @ntmps82
theorem q9z:type_of% @VE:= @VE
end fLogZC
open fLogZC in
theorem JE{S:Nat->Prop}{w:World}{l b base n fi:Nat}{F:List Bk}{O:List (Nat×Bk)}(hl:LogC w l b base n fi)(hd:Dv S w b F O [])(hn:∀j,w.heap.size<=j->S j)(hSl:¬S l)(hN:Nib w)
  (hSN:¬S 0) (hbn:base+n<=F.length) (hz:∀i,i<n->curB F O (base+i)=zB):
  Calls prog 82 #[.pointer (some ⟨l,0,none⟩)] w (US S w b F O 0):=wQ
namespace fLogZF
def zL:List Value:=[Value.int .i64 0,Value.int .i64 0,Value.int .i64 0,Value.int .i64 0,Value.int .i64 0,Value.int .i64 0,Value.int .i64 0,Value.int .i64 0,Value.int .i64 0,Value.int .i64 0,Value.int .i64 0,Value.int .i64 0,Value.int .i64 0]
theorem QZ:(zL.toArray).all (·.oneCell')=true:=by simp[zL,Value.oneCell']
theorem ZH:∀u∈zL,u.oneCell'=true:=by intro u hu;simp[zL]at hu;subst hu;rfl
theorem WA(w:World):(Instr.alloc 165 true (.tuple #[])).run prog w=.ok (.pointer (some ⟨w.heap.size,0,none⟩)) (w.alloc (.cells zL.toArray 165)):=by
 kernel_rfl
end fLogZF
namespace fLogZF
abbrev n1z:Nat:=13
abbrev n2z:Nat:=165
theorem q3z:type_of% @QW:= @QW
theorem q4z:type_of% @func158:= @func158
theorem q5z:type_of% @ntmps158:= @ntmps158
theorem q6z:type_of% @underlying165:= @underlying165
end fLogZF
open fLogZF in
theorem VF{S:Nat->Prop}{w:World}{l b base n fi:Nat}{F:List Bk}{O:List (Nat×Bk)}{P:List Int}(hl:LogF w l b base n fi)(hd:Dv S w b F O P)(hn:∀j,w.heap.size<=j->S j)(hSl:¬S l)(hN:Nib w)
  (hSN:¬S 0) (hbn:base+n<=F.length) (hf:¬fate P=1) {an:Nat} (hann:an<n) (hz:curB F O (base+an)=zB):
  Calls prog 158 #[.pointer (some ⟨l,0,none⟩),.int .i64 (an:Int)] w (AE S w b F O P.tail zL 14):=wP
namespace fLogZF
theorem q7z:type_of% @func83:= @func83
theorem q8z:type_of% @ntmps83:= @ntmps83
theorem q9z:type_of% @VF:= @VF
end fLogZF
open fLogZF in
theorem JF{S:Nat->Prop}{w:World}{l b base n fi:Nat}{F:List Bk}{O:List (Nat×Bk)}(hl:LogF w l b base n fi)(hd:Dv S w b F O [])(hn:∀j,w.heap.size<=j->S j)(hSl:¬S l)(hN:Nib w)
  (hSN:¬S 0) (hbn:base+n<=F.length) (hz:∀i,i<n->curB F O (base+i)=zB):
  Calls prog 83 #[.pointer (some ⟨l,0,none⟩)] w (US S w b F O 0):=wQ
structure LgsZ(S:Nat->Prop)(w:World)(li lc lf d base k:Nat)(F:List Bk)(O:List (Nat×Bk)):Prop where
 i:LogI w li d base k 140
 c:LogC w lc d (base+k) k 144
 f:LogF w lf d (base+k+k) k 148
 dv:Dv S w d F O []
 fl:base+k+k+k<=F.length
 nS:∀j,w.heap.size<=j->S j
 iS:¬S li
 cS:¬S lc
 fS:¬S lf
 nib:Nib w
 nibS:¬S 0
 zs:∀j,j<k+k+k->curB F O (base+j)=zB
section
variable{S:Nat->Prop}{w w':World}{li lc lf d base k:Nat}{F:List Bk}{O:List (Nat×Bk)}
theorem LgsZ.turn(h:LgsZ S w li lc lf d base k F O)(hu:Upd S w w')(hd:Dv S w' d F O []):LgsZ S w' li lc lf d base k F O:=
 {h with i:=h.i.keep hu h.iS,c:=h.c.keep hu h.cS,f:=h.f.keep hu h.fS,dv:=hd,nS:=fun j hj=>h.nS j (qXx hu.size hj),nib:=h.nib.keep hu h.nibS}
theorem LgsZ.allI(h:LgsZ S w li lc lf d base k F O):Calls prog 81 #[.pointer (some ⟨li,0,none⟩)] w (US S w d F O 0):=
 JD h.i h.dv h.nS h.iS h.nib h.nibS (by have:=h.fl;omega) (fun i hi=>h.zs i (by omega))
theorem LgsZ.allC(h:LgsZ S w li lc lf d base k F O):Calls prog 82 #[.pointer (some ⟨lc,0,none⟩)] w (US S w d F O 0):=
 JE h.c h.dv h.nS h.cS h.nib h.nibS (by have:=h.fl;omega) (fun i hi=>by have:=h.zs (k+i) (by omega);rwa[<-qXr]at this)
theorem LgsZ.allF(h:LgsZ S w li lc lf d base k F O):Calls prog 83 #[.pointer (some ⟨lf,0,none⟩)] w (US S w d F O 0):=
 JF h.f h.dv h.nS h.fS h.nib h.nibS (by have:=h.fl;omega) (fun i hi=>by have:=h.zs (k+k+i) (by omega);rwa[<-qXr,<-qXr]at this)
theorem LgsZ.box(h:LgsZ S w li lc lf d base k F O)(hu:Upd (fun _=>False) w w'):LgsZ (fun j=>(S j/\j<w.heap.size)\/w'.heap.size<=j) w' li lc lf d base k F O where
 i:=h.i.keep hu (fun h=>h)
 c:=h.c.keep hu (fun h=>h)
 f:=h.f.keep hu (fun h=>h)
 dv:=(h.dv.jF (T:=fun j=>S j/\j<w.heap.size) (fun j h1 h2=>⟨h1,h2⟩)).keep hu (fun _ _ h=>h)|>.wide (fun j h=> .inl h)
 fl:=h.fl
 nS:=fun j hj=> .inr hj
 iS:=fun h'=>by have:=h.i.lt;have:=hu.size;rcases h' with h'|h';exact h.iS h'.1;omega
 cS:=fun h'=>by have:=h.c.lt;have:=hu.size;rcases h' with h'|h';exact h.cS h'.1;omega
 fS:=fun h'=>by have:=h.f.lt;have:=hu.size;rcases h' with h'|h';exact h.fS h'.1;omega
 nib:=h.nib.keep hu (fun h=>h)
 nibS:=fun h'=>by have:=h.nib.lt;have:=hu.size;rcases h' with h'|h';exact h.nibS h'.1;omega
 zs:=h.zs
theorem LgsZ.back{w1:World}(h:LgsZ S w li lc lf d base k F O)(hu1:Upd (fun _=>False) w w1)(hd:Dv (fun j=>(S j/\j<w.heap.size)\/w1.heap.size<=j) w' d F O [])(hu:Upd (fun j=>(S j/\j<w.heap.size)\/w1.heap.size<=j) w1 w'):Dv S w' d F O []/\Upd S w w':=by
 have hs:=hu1.size;exact⟨hd.wide (fun j h'=>h'.elim (fun h=>h.1) (fun h'=>h.nS j (by omega))),(hu1.mono (fun _ _ h=>h.elim)).new hu (fun i hi h'=>h'.elim (fun h=>h.1) (fun h'=>by omega))⟩
def JG(S:Nat->Prop)(w:World)(d:Nat)(F:List Bk)(O:List (Nat×Bk))(v:Value)(e:Ending)(w':World):Prop:=e=.returned v/\Dv S w' d F O []/\Upd S w w'
theorem AF(h:LgsZ S w li lc lf d base k F O):Calls prog 24 #[.agg #[.pointer (some ⟨li,0,none⟩),.pointer (some ⟨lc,0,none⟩),.pointer (some ⟨lf,0,none⟩)]] w (JG S w d F O (.int .i64 0)):=by
 obtain⟨w1,hw1⟩:=qqe (w.alloc (.cells #[.pointer (some ⟨li,0,none⟩),.pointer (some ⟨lc,0,none⟩),.pointer (some ⟨lf,0,none⟩)] 67));have hu1:=qqu hw1;have g1:=qqg hw1;have h1:=h.box hu1;obtain⟨T,hT⟩:∃T:Nat->Prop,T=fun j=>(S j/\j<w.heap.size)\/w1.heap.size<=j:=⟨_,rfl⟩
 rw[<-hT]at h1;have hTq:¬T w.heap.size:=by rw[hT];have:=zf g1;rintro(h|h)<;>omega
 have H:=Y6 h hu1 h1 hT hTq g1;have HW:=qqh hw1;have c0:=za g1 0;have HI:=qqh h1.allI;clear h hu1 h1 hT hTq hw1 g1;go_enter func24,ntmps24
 go_wp2_with fail
 rw[<-HW.o];refine HI.o.mono ?_;rintro e w2 ⟨rfl,hd2,hu2⟩;have h2:=H.o.2.2.1.turn hu2 hd2;have c1:=za ((hu2.block _ (zf H.o.2.2.2.2.2) H.o.2.2.2.2.1).trans H.o.2.2.2.2.2) 1;have HC:=qqh h2.allC;have H2:=Y2 h2 hu2;clear h2 hd2 hu2 HI c0;go_wp2_with fail
 refine HC.o.mono ?_;rintro e w3 ⟨rfl,hd3,hu3⟩;have h3:=H2.o.1.turn hu3 hd3;have hu13:=H2.o.2.trans hu3;have c2:=za ((hu13.block _ (zf H.o.2.2.2.2.2) H.o.2.2.2.2.1).trans H.o.2.2.2.2.2) 2;have HF:=qqh h3.allF;have H3:=qqh hu13;clear h3 hd3 hu3 hu13 HC c1;go_wp2_with fail
 refine HF.o.mono ?_;rintro e w4 ⟨rfl,hd4,hu4⟩;have hu14:=H3.o.trans hu4;rw[H.o.2.2.2.1]at hd4 hu14;have HE:=qqh (H.o.1.back H.o.2.1 hd4 hu14);clear hd4 hu4 hu14 HF c2;go_wp2
 go_ret
 exact⟨rfl,HE.o.1,HE.o.2⟩
theorem ZI(h:LgsZ S w li lc lf d base k F O)(m:Value)(hm:∃mb,m=.map (some mb)):Calls prog 149 #[.pointer (some ⟨lc,0,none⟩),m,.func (.func 150) #[] #[]] w (JG S w d F O (.int .i64 0)):=by
 have HA:=qqh h.allC;obtain⟨mb,rfl⟩:=hm;clear h;go_enter func149,ntmps149
 go_wp2_with fail
 refine HA.o.mono ?_;rintro e w2 ⟨rfl,hd2,hu2⟩;have H2:=Y2 hd2 hu2;clear hd2 hu2 HA;go_wp2_with fail
 go_loopg[21] 0 (fun gk s21 wr=>s21=.int .i64 0/\wr=w2)
 case atStart=>exact⟨rfl,rfl⟩
 case round=>
  obtain⟨rfl,hw⟩:=hrel;rw[hw];clear hw;go_wp2_with fail
  go_ret
  exact⟨rfl,H2.o.1,H2.o.2⟩
theorem ZJ(h:LgsZ S w li lc lf d base k F O)(m:Value)(hm:∃mb,m=.map (some mb)):Calls prog 151 #[.pointer (some ⟨lf,0,none⟩),m,.func (.func 152) #[] #[]] w (JG S w d F O (.int .i64 0)):=by
 have HA:=qqh h.allF;obtain⟨mb,rfl⟩:=hm;clear h;go_enter func151,ntmps151
 go_wp2_with fail
 refine HA.o.mono ?_;rintro e w2 ⟨rfl,hd2,hu2⟩;have H2:=Y2 hd2 hu2;clear hd2 hu2 HA;go_wp2_with fail
 go_loopg[21] 0 (fun gk s21 wr=>s21=.int .i64 0/\wr=w2)
 case atStart=>exact⟨rfl,rfl⟩
 case round=>
  obtain⟨rfl,hw⟩:=hrel;rw[hw];clear hw;go_wp2_with fail
  go_ret
  exact⟨rfl,H2.o.1,H2.o.2⟩
theorem WB(h:LgsZ S w li lc lf d base k F O):Calls prog 78 #[.agg #[.pointer (some ⟨li,0,none⟩),.pointer (some ⟨lc,0,none⟩),.pointer (some ⟨lf,0,none⟩)]] w (JG S w d F O (.tuple #[.slice none 0 0,.int .i64 0])):=by
 have hmm:= @run_makeMap prog;obtain⟨w1,hw1⟩:=qqe (w.alloc (.cells #[.pointer (some ⟨li,0,none⟩),.pointer (some ⟨lc,0,none⟩),.pointer (some ⟨lf,0,none⟩)] 67));have hu1:=qqu hw1;have g1:=qqg hw1;have h1:=h.box hu1;obtain⟨T,hT⟩:∃T:Nat->Prop,T=fun j=>(S j/\j<w.heap.size)\/w1.heap.size<=j:=⟨_,rfl⟩
 rw[<-hT]at h1;have hTq:¬T w.heap.size:=by rw[hT];have:=zf g1;rintro(h|h)<;>omega
 have hTn:∀j,w1.heap.size<=j->T j:=fun j hj=>by rw[hT];exact .inr hj
 have H:=Y7 h hu1 h1 hT hTq g1 hTn;have HW:=qqh hw1;have c0:=za g1 0;have HI:=qqh h1.allI;clear h hu1 h1 hT hTq hw1 g1 hTn;go_enter func78,ntmps78
 go_wp2_with fail
 rw[<-HW.o];refine HI.o.mono ?_;rintro e w2 ⟨rfl,hd2,hu2⟩;obtain⟨w3,hw3⟩:=qqe (w2.alloc (.map #[] 0));have hu3:Upd T w2 w3:=by rw[hw3];exact((uur _ w2).alloc _)
 have h3:=(H.o.2.2.1.turn hu2 hd2).turn hu3 (hd2.new (by rw[hw3];exact((uur _ w2).alloc _)));have hu13:=hu2.trans hu3;have c1:=za ((hu13.block _ (zf H.o.2.2.2.2.2.1) H.o.2.2.2.2.1).trans H.o.2.2.2.2.2.1) 1;have HC:=qqh (ZI h3 (.map (some w2.heap.size)) ⟨_,rfl⟩);have H3:=Y2 h3 hu13;have HW3:=qqh hw3;rw[hw3]at c1;clear h3 hd2 hu2 hu3 hu13 HI c0 hw3;go_wp2_with fail
 rw[<-HW3.o];refine HC.o.mono ?_;rintro e w4 ⟨rfl,hd4,hu4⟩;have h4:=H3.o.1.turn hu4 hd4;have hu14:=H3.o.2.trans hu4;have c2:=za ((hu14.block _ (zf H.o.2.2.2.2.2.1) H.o.2.2.2.2.1).trans H.o.2.2.2.2.2.1) 2;have HF:=qqh (ZJ h4 (.map (some w2.heap.size)) ⟨_,rfl⟩);have H4:=qqh hu14;clear h4 hd4 hu4 hu14 HC c1;go_wp2_with fail
 refine HF.o.mono ?_;rintro e w5 ⟨rfl,hd5,hu5⟩;have hu15:=H4.o.trans hu5;rw[H.o.2.2.2.1]at hd5 hu15;have HE:=qqh (H.o.1.back H.o.2.1 hd5 hu15);clear hd5 hu5 hu15 HF c2;go_wp2_with fail
 go_loopg[9,38] 0 (fun gk s9 s38 wr=>s9=.slice none 0 0/\s38=.int .i64 0/\wr=w5)
 case atStart=>exact⟨rfl,rfl,rfl⟩
 case round=>
  obtain⟨rfl,rfl,hw⟩:=hrel;rw[hw];clear hw;go_wp2_with fail
  go_ret2
  exact⟨rfl,HE.o.1,HE.o.2⟩
end
abbrev recC(a0 a1 a2 a3 a4:Int)(d:Bool)(a6:Int):List Value:=[.int .i64 a0,.int .i64 a1,.int .i64 a2,.int .i64 a3,.int .i64 a4,.bool d,.int .i64 a6]
abbrev recX(a0 a1 a2 a3 a4:Int)(d:Bool)(a6:Int):List Int:=[a0,a1,a2,a3,a4,(bitN d:Int),a6]
theorem zbD(a0 a1 a2 a3 a4:Int)(d:Bool)(a6:Int)(w:World):Calls prog 250 #[.agg (recC a0 a1 a2 a3 a4 d a6).toArray] w (zQ w 7 (recX a0 a1 a2 a3 a4 d a6)):=by
 obtain⟨L,hL⟩:=qqe ((recC a0 a1 a2 a3 a4 d a6).toArray);have hg:=zc w (.cells L 101) rfl;have c0:(w.alloc (.cells L 101)).cell? ⟨w.heap.size,0,none⟩=some (.int .i64 a0):=(za hg 0).trans (by rw[hL];rfl);have c1:(w.alloc (.cells L 101)).cell? ⟨w.heap.size,1,none⟩=some (.int .i64 a1):=(za hg 1).trans (by rw[hL];rfl);have c2:(w.alloc (.cells L 101)).cell? ⟨w.heap.size,2,none⟩=some (.int .i64 a2):=(za hg 2).trans (by rw[hL];rfl);have c3:(w.alloc (.cells L 101)).cell? ⟨w.heap.size,3,none⟩=some (.int .i64 a3):=(za hg 3).trans (by rw[hL];rfl);have c4:(w.alloc (.cells L 101)).cell? ⟨w.heap.size,4,none⟩=some (.int .i64 a4):=(za hg 4).trans (by rw[hL];rfl);have c5:(w.alloc (.cells L 101)).cell? ⟨w.heap.size,5,none⟩=some (.bool d):=(za hg 5).trans (by rw[hL];rfl);have c6:(w.alloc (.cells L 101)).cell? ⟨w.heap.size,6,none⟩=some (.int .i64 a6):=(za hg 6).trans (by rw[hL];rfl);rw[<-hL];have hb:Below w.heap.size w (w.alloc (.cells L 101)):=(qxl _ _).alloc (qXv _) _;have HB:=qqh hb;clear hg hL hb;go_enter func250,ntmps250
 go_wp2
 generalize w.alloc (.cells L 101)=w1 at*;obtain⟨m,hm⟩:=qqe (w.heap.size);rw[<-hm]at c0 c1 c2 c3 c4 c5 c6⊢;have HM:=qqh hm;clear hm;refine qZj (S:=fun W=>W.cell? ⟨m,0,none⟩=some (.int .i64 a0)/\W.cell? ⟨m,1,none⟩=some (.int .i64 a1)/\W.cell? ⟨m,2,none⟩=some (.int .i64 a2)/\W.cell? ⟨m,3,none⟩=some (.int .i64 a3)/\W.cell? ⟨m,4,none⟩=some (.int .i64 a4)/\W.cell? ⟨m,5,none⟩=some (.bool d)/\W.cell? ⟨m,6,none⟩=some (.int .i64 a6)) (by kernel_rfl) (by(simp only[qYo]);exact⟨c0,c1,c2,c3,c4,c5,c6⟩) (fun hHeld=>?_);refine Wl.i [0,1,2,3,4,5,6,7,8,9,10,11,13,14] ?_;iterate 14 refine Wl.t hHeld ?_
 refine Wl.o ?_;refine Wl.r 12 (fun K hK=>?_);go_simp
 refine(Vq d _).mono ?_;rintro e w3 ⟨rfl,h3⟩;rw[<-h3];clear h3 w3;refine hK.o _ _ (hHeld) (fun hH1=>?_);clear hK K;refine Wl.r 15 (fun K hK=>?_);go_simp
 refine hK.o _ _ (⟨zm hH1.1 _,zm hH1.2.1 _,zm hH1.2.2.1 _,zm hH1.2.2.2.1 _,zm hH1.2.2.2.2.1 _,zm hH1.2.2.2.2.2.1 _,zm hH1.2.2.2.2.2.2 _⟩) (fun hH2=>?_);clear hK K;refine Wl.r 16 (fun K hK=>?_);go_simp
 refine hK.o _ _ (hH2) (fun hH3=>?_);clear hK K;refine Wl.d ?_;clear hHeld hH1 hH2;go_wp2
 go_ret
 refine⟨w1.heap.size,7,rfl,qXv _,by unfold maxLen;omega,zh (zc w1.drew _ rfl),?_⟩;exact(zV HB.o 1).alloc HB.o.size _
end Go.Proofs.YtfhfbpmlnjdfoaaGreatDoor
