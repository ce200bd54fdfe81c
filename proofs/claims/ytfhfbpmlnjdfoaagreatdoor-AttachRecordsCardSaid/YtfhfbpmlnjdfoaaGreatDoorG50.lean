/- lavabolaw19.devices: two new devices. lavabola -/
import Derived.Test.YtfhfbpmlnjdfoaaGreatDoorG49
set_option maxRecDepth 100000
set_option maxHeartbeats 2000000
namespace Go.Proofs.YtfhfbpmlnjdfoaaGreatDoor
open Go Go.RowKit
def Jf(w:World)(n:CaN)(e:Ending)(w':World):Prop:=
 ∃own ssd back,e=.returned (.tuple #[ptr ssd,ptr back])/\Dvs own w' ssd back (List.replicate n.size zB) [] (List.replicate n.bl zB) [] []/\Below w.heap.size w w'/\∀j,j<w.heap.size->own j=0
theorem Va(n:CaN)(id:Int)(hok:n.Ok)(w:World)(nib:Nib w)(tur:Tur w):Calls Tryz.prog 17 #[.agg (superC id n.bl n.sl n.jo n.pa n.lo n.ba).toArray] w (Jf w n):=by
 obtain⟨U,hU⟩:=qqe (superC id n.bl n.sl n.jo n.pa n.lo n.ba);obtain⟨V,hV⟩:=qqe (layC n.sl n.jo n.pa n.lo);obtain⟨w1,hw1⟩:=qqe (w.alloc (.cells U.toArray 40));have hg1:w1.heap[w.heap.size]?=some (.cells U.toArray 40):=by rw[hw1];exact zc w _ rfl
 have hu1:Upd (fun _=>False) w w1:=by rw[hw1];exact(uur _ w).alloc _
 have hrU:w1.rangeAt w.heap.size 0 U:=zg hg1;have hsU:(Tryz.prog.info? 40).map (·.size)=some U.length:=by rw[hU];exact yY
 have HPl:Hid (Calls Tryz.prog 14 #[.agg U.toArray] w1 fun e w'=>e=.returned (.tuple #[.agg V.toArray,.int .i64 0])/\Below w1.heap.size w1 w'):=by
  show Calls _ _ _ _ _;rw[hU,hV];obtain⟨b1,b2,s1,s2,j1,j2,l1,l2,a1,a2,p1,p2,z⟩:=hok;exact vO id n.bl n.sl n.jo n.pa n.lo n.ba b1 b2 s1 s2 j1 j2 l1 l2 a1 a2 p1 p2 z w1
 rw[<-hU];have H:=Y7 nib tur hok hU hV hg1 hu1;rw[hw1]at hrU;have HW1:=qqh hw1;have HU:=Y2 hrU hsU;clear nib tur hok hU hV hg1 hu1 hrU hsU hw1;go_enter Tryz.func17,Tryz.ntmps17
 go_wp2_with (first
  |(refine qZg rfl _ _ rfl _ _ rfl _ _ HU.o.1 Tryz.underlying40 rfl HU.o.2 ?_)
  |fail)
 rw[<-HW1.o];refine HPl.out.mono ?_;rintro e w2 ⟨rfl,hb2⟩;obtain⟨nib,tur,hok,hU,hV,hg1,hu1⟩:=H.o;obtain⟨w3,hw3⟩:=qqe (w2.alloc (.cells V.toArray 43));have hu2:=qqb hb2;have hu3:Upd (fun _=>False) w2 w3:=by rw[hw3];exact(uur _ w2).alloc _
 have hg3:w3.heap[w2.heap.size]?=some (.cells V.toArray 43):=by rw[hw3];exact zc w2 _ rfl
 have hg13:=(hu2.trans hu3).blockv hg1;have hU3:=(hu1.trans hu2).trans hu3;have hVl:V.length=7:=by rw[hV];rfl
 have hV1:∀v∈V,v.oneCell'=true:=by rw[hV];exact uf _ _ _ _
 have hsV:Hid ((Tryz.prog.info? 43).map (·.size)=some V.length):=by show _=_;rw[hVl];exact xG
 have v6:w3.cell? ⟨w2.heap.size,6,none⟩=some (.int .i64 (n.size:Int)):=by
  rw[za hg3,hV];simp[layC,CaN.size]
 have u1:w3.cell? ⟨w.heap.size,1,none⟩=some (.int .i64 (n.bl:Int)):=by
  rw[za hg13,hU];simp[superC]
 have hz4:n.size<=4096:=hok.z;have hz1:1<=n.size:=by unfold CaN.size;omega
 have hD1:=Wh n.size hz1 hz4 w3;have H3:=Y4 hU3 hg13 v6 u1;have HV:=Y3 hVl hV1 hD1;have HW3:=qqh hw3;rw[hw3]at v6;have hlt:=zd hg13;clear nib tur hok hU hV hg1 hu1 hb2 hu2 hu3 hg3 hg13 hU3 hVl hV1 u1 hD1 hw3;go_wp2_with (first
  |(refine zk rfl _ _ _ rfl _ _ _ rfl rfl (by rw[HV.o.1];rfl) hsV.out HV.o.2.1 ?_)
  |fail)
 rw[<-HW3.o];refine HV.o.2.2.mono ?_;rintro e w4 ⟨b1,rfl,hX1,hlo1,hb4⟩;have hu4:=qqb hb4;have u1:=hu4.cellv H3.o.2.2.2 (fun h=>h);obtain⟨nib,tur,hok,hU,hV,hg1,hu1⟩:=H.o;have hD2:=qqh (Wh n.bl hok.b1 hok.b2 w4);have H4:=Y2 hX1 hu4;clear hX1 hb4 hu4 nib tur hok hU hV hg1 hu1 v6 hlt;go_wp2_with fail
 refine hD2.out.mono ?_;rintro e w5 ⟨b2,rfl,hX2,hlo2,hb5⟩;have hu5:=qqb hb5;have H5:=Y2 hX2 hu5;clear hX2 hb5 hu5 u1 hD2;go_wp2
 go_ret2
 obtain⟨nib,tur,hok,hU,hV,hg1,hu1⟩:=H.o;obtain⟨hX2,hu5⟩:=H5.o;have hU5:=(H3.o.1.trans H4.o.2).trans hu5;obtain⟨own,hown⟩:∃own:Nat->Nat,own=fun j=>if w3.heap.size<=j/\j<w4.heap.size then 2 else if w4.heap.size<=j/\j<w5.heap.size then 3 else 0:=⟨_,rfl⟩
 have hs3:=H3.o.1.size;have hs4:=H4.o.2.size;have hs5:=hu5.size;have h2:Dv (fun j=>own j=2) w5 b1 (List.replicate n.size zB) [] []:=by
  have a1:Dv (fun j=>w3.heap.size<=j/\j<w4.heap.size) w4 b1 (List.replicate n.size zB) [] []:=H4.o.1.out (fun j h1 h2=>⟨h2,h1⟩);exact((a1.new hu5).out (fun j _ hj=>by rw[hown];simp[hj.1,hj.2]))
 have h3:Dv (fun j=>own j=3) w5 b2 (List.replicate n.bl zB) [] []:=hX2.out (fun j h1 h2=>by
  rw[hown];have h2':w4.heap.size<=j:=h2;simp only[];rw[if_neg (by omega),if_pos ⟨h2',h1⟩])
 have hnl:=nib.lt;have htl:=tur.lt;refine⟨own,b1,b2,rfl,⟨h2,h3,fun j hj=>?_,nib.keep hU5 (fun h=>h),tur.keep hU5 (fun h=>h),?_,?_⟩,Upd.below hU5,fun j hj=>?_⟩
 .rw [hown];simp only[];rw[if_neg (by omega),if_neg (by omega)]
 .rw [hown];simp only[];rw[if_neg (by omega),if_neg (by omega)]
 .rw [hown];simp only[];rw[if_neg (by omega),if_neg (by omega)]
 .rw [hown];simp only[];rw[if_neg (by omega),if_neg (by omega)]
def zaD(own:Nat->Nat)(w:World)(ssd back:Nat)(F:List Bk)(O:List (Nat×Bk))(G:List Bk)(Q:List (Nat×Bk))(P:List Int)(cd:Int)(e:Ending)(w':World):Prop:=
 e=.returned (.tuple #[.pointer none,.agg #[.pointer none,.pointer none,.pointer none],.slice none 0 0,.int .i64 cd])/\∃own',Dvs own' w' ssd back F O G Q P/\Did own own' w w'
theorem rk:∀w:World,(Instr.build 67 #[]).run Tryz.prog w=.ok (.agg #[.pointer none,.pointer none,.pointer none]) w:=by
 intro w;kernel_rfl
theorem Wf{own:Nat->Nat}{w:World}{ssd back:Nat}{F G:List Bk}{O Q:List (Nat×Bk)}{P:List Int}(hD:Dvs own w ssd back F O G Q P)(n:CaN)(hok:n.Ok)(hF:0<F.length)(hy:okS (curB F O 0)=true->dsS (natsI (numsS (curB F O 0)))=n.C)
  (cd:Int) (hR:supR n F G (curB F O 0)=(zeroS,cd)) (hcd:cd≠0):
  Calls Tryz.prog 23 #[ptr ssd,ptr back] w (zaD own w ssd back F O G Q P cd):=by
 obtain⟨Z,hZ⟩:=qqe (zeroS);obtain⟨w1,hw1⟩:=qqe (((w.alloc (.cells #[ptr ssd] 46)).alloc (.cells #[ptr back] 46)).alloc (.cells #[.pointer none,.pointer none,.pointer none] 67));have hu1:Upd (fun _=>False) w w1:=by rw[hw1];exact(((uur _ w).alloc _).alloc _).alloc _
 have z1:w1.heap.size=w.heap.size+3:=by rw[hw1];simp
 obtain⟨ga1,gb1,gc1,-,-⟩:=yG w (.cells #[ptr ssd] 46) (.cells #[ptr back] 46) (.cells #[.pointer none,.pointer none,.pointer none] 67);rw[<-hw1]at ga1 gb1 gc1;have D1:=hD.new hu1;have hsup:=QR D1.open2 (fun j hj=> .inr hj) D1.back (fun j h3 h2=>by rcases h2 with h2|h2;rw[h3]at h2;exact absurd h2 (by decide);rw[D1.far j h2]at h3;exact absurd h3 (by decide)) D1.nib D1.on2 hF n hok hy;rw[hR,<-hZ]at hsup;have HS:Hid (Calls Tryz.prog 21 #[ptr ssd,ptr back] w1 (fun e w'=>e=.returned (.tuple #[.agg Z.toArray,.int .i64 cd])/\Dv (fun j=>own j=2\/w1.heap.size<=j) w' ssd F O []/\Upd (fun j=>own j=2\/w1.heap.size<=j) w1 w')):=hsup;have H1:=Y6 hw1 hu1 z1 gc1 D1 hD;have ca:=za ga1 0;have cb:=za gb1 0;have hZl:Z.length=7:=by rw[hZ];rfl
 have hZ1:∀v∈Z,v.oneCell'=true:=by rw[hZ];exact qxw.1 (by simp[zeroS,Value.oneCell'])
 have hsZ:(Tryz.prog.info? 40).map (·.size)=some Z.length:=by rw[hZl];exact yo
 have q0:(cd==0)=false:=by simpa using hcd
 have HC:=qqh hcd;have hbl:=rk;clear hD hok hF hy hR hcd hw1 hu1 z1 ga1 gb1 gc1 D1 hsup hZ;go_enter Tryz.func23,Tryz.ntmps23
 go_wp2_with fail
 rw[<-H1.o.1];refine HS.o.mono ?_;rintro e w2 ⟨rfl,hd2,hu2⟩;have D2:=H1.o.2.2.2.2.1.turn2 hu2 hd2;have did2:=H1.o.2.2.2.2.1.did2 hu2;obtain⟨own2,hown2⟩:=qqe (grow own 2 w1.heap.size w2.heap.size);rw[<-hown2]at D2 did2;obtain⟨w3,hw3⟩:=qqe (w2.alloc (.cells Z.toArray 40));have hu3:Upd (fun _=>False) w2 w3:=by rw[hw3];exact(uur _ w2).alloc _
 have D3:=D2.new hu3;have did3:=did2.trans (D2.didNew hu3);have gc3:=did3.zero H1.o.2.2.2.1 (H1.o.2.2.2.2.2.far _ (by omega));have tA:=zD (n:=3) gc3.1 (by simp);obtain⟨q,hq⟩:=qqe (w.heap.size+1+1);have H3:=Y5 hw3 D3 did3 gc3 (show w.heap.size<=w.heap.size+1+1 by omega);have HQ:=qqh hq;rw[hw3]at tA;clear hd2 hu2 D2 did2 hown2 hu3 D3 did3 gc3 hw3 HS ca cb hq;go_wp2_with (first
  |(refine zk rfl _ _ _ rfl _ _ Z rfl rfl (by rw[hZl];rfl) hsZ hZ1 ?_)
  |(refine xP rfl _ rfl hbl ?_)
  |(refine qZi rfl _ _ _ rfl _ _ [Value.pointer none,Value.pointer none,Value.pointer none].toArray rfl rfl tA xD (by simp[Value.oneCell']) ?_)
  |fail)
 refine qYw (qS rfl _ _ (w.heap.size+1+1) 0 [.pointer none,.pointer none,.pointer none] _ rfl (qYr _ _ _ _ tA) Tryz.underlying67 rfl xD) rfl ?_;obtain⟨hw3,D3,did3,gc3,hql⟩:=H3.o;rw[<-hw3];have hur:=zp w3 (w.heap.size+1+1) 0 [Value.pointer none,Value.pointer none,Value.pointer none];have hbn:=qR D3.nib D3.tur gc3.1 gc3.2 (fun k y h=>by simp at h);refine⟨rfl,own2,⟨D3.ssd.keep hur (fun j h e=>?_),D3.back.keep hur (fun j h e=>?_),fun j hj=>D3.far j (qXx hur.size hj),D3.nib.keep hur (fun e=>(hbn _ e).2.1 rfl),D3.tur.keep hur (fun e=>(hbn _ e).2.2 rfl),D3.on,D3.ot⟩,((H1.o.2.2.2.2.2.didNew H1.o.2.1).trans did3).mine hur hql⟩
 .have:=(hbn j e).1;rw[this]at h;cases h
 .have:=(hbn j e).1;rw[this]at h;cases h
def EH(w:World)(n:CaN)(e:Ending)(w':World):Prop:=
 ∃own ssd back,e=.returned (.tuple #[ptr ssd,ptr back])/\Dvs own w' ssd back (fmtF n (List.replicate n.size zB) []) [] (List.replicate n.bl zB) [] []/\Below w.heap.size w w'/\∀j,j<w.heap.size->own j=0
theorem EJ(n:CaN)(hok:n.Ok)(hm:mayS n.I=true)(w:World)(nib:Nib w)(tur:Tur w):Calls Tryz.prog 38 #[.agg n.C.toArray] w (EH w n):=by
 obtain⟨U,hU⟩:=qqe (n.C);obtain⟨w1,hw1⟩:=qqe (w.alloc (.cells U.toArray 40));have hu1:Upd (fun _=>False) w w1:=by rw[hw1];exact(uur _ w).alloc _
 have g1:w1.heap[w.heap.size]?=some (.cells U.toArray 40 (0,0)):=by rw[hw1];exact zc w _ rfl
 have hUl:U.length=7:=by rw[hU];rfl
 have hU1:∀v∈U,v.oneCell'=true:=by rw[hU];exact n.C_one
 have hsU:(Tryz.prog.info? 40).map (·.size)=some U.length:=by rw[hU];exact yY
 have hdv:=Va n (n.id:Int) hok w1 (nib.keep hu1 (fun h=>h)) (tur.keep hu1 (fun h=>h));rw[show superC n.id n.bl n.sl n.jo n.pa n.lo n.ba=U from hU.symm]at hdv;have HD:=qqh hdv;obtain⟨q,hq⟩:=qqe (w.heap.size);have H:=Y7 hok hm hU hw1 hu1 g1 hq;have r1:=zg g1;rw[<-hq]at r1;rw[<-hU];clear nib tur hok hm hU hw1 hu1 g1 hdv hq;go_enter Tryz.func38,Tryz.ntmps38
 go_upto_region 1 with fail
 rw[<-H.o.2.2.2.1,<-H.o.2.2.2.2.2.2];go_wp2_with (first
  |(refine yX (by rfl) _ _ rfl _ _ rfl _ _ r1 Tryz.underlying40 rfl hsU ?_)
  |fail)
 refine HD.o.mono ?_;rintro e w2 ⟨own,ssd,back,rfl,D2,hb2,ho2⟩;have hok:=H.o.1;have r2:=(uuo (S:=fun _=>False) hb2).range r1 (fun h=>h);have hf:=WW D2.open2 (fun j hj=> .inr hj) D2.back D2.nib D2.on2 n hok H.o.2.1 (by rw[qzi]) (by rw[qzi]) (qYf _);rw[<-H.o.2.2.1]at hf;have HF:=qqh hf;have H2:=Y3 D2 hb2 ho2;clear D2 hb2 ho2 hok hf r1 HD;go_wp2_with (first
  |(refine yX (by rfl) _ _ rfl _ _ rfl _ _ r2 Tryz.underlying40 rfl hsU ?_)
  |fail)
 refine HF.o.mono ?_;rintro e w3 ⟨rfl,hd3,hu3⟩;have D3:=H2.o.1.turn2 hu3 hd3;have H3:=Y2 D3 (H2.o.1.did2 hu3);clear hd3 hu3 D3 HF r2;go_wp2
 go_ret2
 have hu1:=H.o.2.2.2.2.1;refine⟨_,ssd,back,rfl,H3.o.1,?_,fun j hj=>?_⟩
 .refine zj (zj (Upd.below hu1) (uuo (S:=fun _=>False) H2.o.2.1) (qXv _) (fun _ h=>h.elim)) H3.o.2.upd (qXv _) (fun k hk=>Nat.le_of_not_lt fun hlt=>hk.1 (H2.o.2.2 k (qXy hlt hu1.size)))
 .have hl:=qXy hj hu1.size;rw[H3.o.2.old j (qXy hl H2.o.2.1.size)];exact H2.o.2.2 j hl
theorem YV:okS zB=false:=by kernel_rfl
theorem Rh:cdS zB=13:=by kernel_rfl
theorem Jh:(smN 9 2 8).Ok:=by constructor<;>simp only[smN,CaN.size]<;>omega
theorem YW{k s:Nat}(h:s<k):curB (List.replicate k zB) [] s=zB:=by
 show(List.replicate k zB).getD s zB=zB;rw[qyh,qys,if_pos h];rfl
theorem Vb(w:World)(nib:Nib w)(tur:Tur w):Calls Tryz.prog 11 #[] w fun e w'=>e=.returned (.bool true)/\Below w.heap.size w w':=by
 have HS:=qqh (rW 9 2 8 (by omega) (by omega) w);have HN:=Y2 nib tur;obtain⟨n,hn⟩:=qqe (smN 9 2 8);have hok:n.Ok:=by rw[hn];exact Jh
 have hm:mayS n.I=true:=CaN.may hok (by rw[hn];show 7<=_;decide);have hc:(pos ((caS0 n 0 (0+1) (fmtF n (List.replicate n.size zB) []) [] [] (List.replicate n.bl zB) [] []).ckpt n).1.st 0).length=2:=by
  rw[Yn rfl rfl rfl,hn]
  kernel_rfl
 rw[<-hn]at HS;obtain⟨U,hU⟩:=qqe (n.C);rw[<-hU]at HS;have hUl:U.length=7:=by rw[hU];rfl
 have hU1:∀v∈U,v.oneCell'=true:=by rw[hU];exact n.C_one
 have hsU:(Tryz.prog.info? 40).map (·.size)=some U.length:=by rw[hU];exact yY
 have H:=Y4 hok hm hc hU;clear nib tur hok hm hc hU hn;go_enter Tryz.func11,Tryz.ntmps11
 go_wp2_with fail
 refine HS.o.mono ?_;rintro e w1 ⟨rfl,hb1⟩;obtain⟨w2,hw2⟩:=qqe (w1.alloc (.cells U.toArray 40));have hu1:=qqb hb1;have hu2:Upd (fun _=>False) w1 w2:=by rw[hw2];exact(uur _ w1).alloc _
 have U2:=hu1.trans hu2;have g2:w2.heap[w1.heap.size]?=some (.cells U.toArray 40 (0,0)):=by rw[hw2];exact zc w1 _ rfl
 have r2:=zg g2;have hdv:=Va n (n.id:Int) H.o.1 w2 (HN.o.1.keep U2 (fun h=>h)) (HN.o.2.keep U2 (fun h=>h));rw[show superC n.id n.bl n.sl n.jo n.pa n.lo n.ba=U from H.o.2.2.2.symm]at hdv;have HD:=qqh hdv;obtain⟨sb,hsb⟩:=qqe (w1.heap.size);have H2:=Y4 hw2 U2 g2 hsb;rw[hw2]at r2;clear hb1 hu1 hu2 U2 g2 hw2 hdv HS;go_wp2_with (first
  |(refine zk rfl _ _ _ rfl _ _ U rfl rfl (by rw[hUl];rfl) hsU hU1 ?_)
  |(refine qZg rfl _ _ rfl _ _ rfl _ _ r2 Tryz.underlying40 rfl hsU ?_)
  |fail)
 rw[<-H2.o.1,<-hsb];refine HD.o.mono ?_;rintro e w3 ⟨own,ssd,back,rfl,D3,hb3,ho3⟩;have g3:=(uuo (S:=fun _=>False) hb3).blockv H2.o.2.2.1;rw[<-hsb]at g3;have o3:own sb=0:=ho3 _ (by rw[hsb];exact zd H2.o.2.2.1);have hz:n.size<=4096/\1<=n.size:=⟨H.o.1.z,by unfold CaN.size;omega⟩
 have hno:=Wf D3 n H.o.1 (by rw[qzi];omega) (fun h=>by rw[YW (by omega),YV]at h;cases h) 13 (by unfold supR;rw[YW (by omega),YV,if_neg (by simp),Rh]) (by decide);have HA:=qqh hno;have H3:=Y5 D3 (H2.o.2.1.trans (uuo hb3)) g3 o3 (fun j (hj:j<w.heap.size)=>ho3 j (qXy hj H2.o.2.1.size));clear D3 hb3 ho3 g3 o3 hz hno r2 HD hsb;go_wp2_with fail
 refine HA.o.mono ?_;rintro e w4 ⟨rfl,own4,D4,d4⟩;obtain⟨w5,hw5⟩:=qqe (w4.alloc (.cells #[.pointer none,.pointer none,.pointer none] 67));have hu5:Upd (fun _=>False) w4 w5:=by rw[hw5];exact(uur _ w4).alloc _
 have D5:=D4.new hu5;have d5:=d4.trans (D4.didNew hu5);have g5:=d5.zero H3.o.2.2.1 H3.o.2.2.2.1;have r5:=zg g5.1;have hf:=WW D5.open2 (fun j hj=> .inr hj) D5.back D5.nib D5.on2 n H.o.1 H.o.2.1 (by rw[qzi]) (by rw[qzi]) (qYf _);rw[<-H.o.2.2.2]at hf;have HF:=qqh hf;have H5:=Y4 hw5 D5 d5 g5;rw[hw5]at r5;clear D4 d4 hu5 D5 d5 g5 hf hw5 HA;go_wp2_with (first
  |(refine qZg rfl _ _ rfl _ _ rfl _ _ r5 Tryz.underlying40 rfl hsU ?_)
  |fail)
 rw[<-H5.o.1];refine HF.o.mono ?_;rintro e w6 ⟨rfl,hd6,hu6⟩;have D6:=H5.o.2.1.turn2 hu6 hd6;have d6:=H5.o.2.2.1.trans (H5.o.2.1.did2 hu6);obtain⟨own6,hown6⟩:=qqe (grow own4 2 w5.heap.size w6.heap.size);rw[<-hown6]at D6 d6;have HA:=qqh (tp D6 (WZ (O:=[]) H.o.1 H.o.2.1 (by rw[qzi])) (by rw[qzi]));have H6:=Y2 D6 d6;clear hd6 hu6 D6 d6 hown6 HF r5;go_wp2_with fail
 refine HA.o.mono ?_;rintro e w7 ⟨c,p,own7,li,lc,lf,rfl,hca,hp1,hp2,d7,-⟩;obtain⟨w8,hw8⟩:=qqe (w7.alloc (.cells #[ptr li,ptr lc,ptr lf] 67));have hu8:Upd (fun _=>False) w7 w8:=by rw[hw8];exact(uur _ w7).alloc _
 have hca8:=hca.new hu8;have hct:=rS hca8 0;rw[H.o.2.2.1]at hct;have HC:=qqh hct;have H8:=Y2 hw8 ((H6.o.2.trans d7).trans (hca.didNew hu8));clear hca hp1 hp2 d7 hu8 hca8 hct HA hw8;go_wp2_with fail
 try rw[<-H8.o.1]
 refine HC.o.mono ?_;rintro e w9 ⟨rfl,own9,h9,d9⟩;have HE:=qqh (H8.o.2.trans d9);clear h9 d9 HC;go_wp2
 go_ret
 refine⟨rfl,?_⟩;have hb:=Upd.below H3.o.2.1;exact zj hb HE.o.upd (qXv _) (fun k hk=>Nat.le_of_not_lt fun hlt=>hk.1 (H3.o.2.2.2.2 k hlt))
end Go.Proofs.YtfhfbpmlnjdfoaaGreatDoor
