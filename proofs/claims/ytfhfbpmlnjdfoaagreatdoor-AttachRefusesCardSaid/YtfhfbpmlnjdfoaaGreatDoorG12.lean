/- cache.New of n -/
import Derived.Test.YtfhfbpmlnjdfoaaGreatDoorG11
set_option maxRecDepth 100000
set_option maxHeartbeats 2000000
namespace Go.Proofs.YtfhfbpmlnjdfoaaGreatDoor
open Go Go.RowKit Tryz
def ca0(n:CaN)(ssd back wh sm:Nat):List Value:=
 n.C++(layC n.sl n.jo n.pa n.lo++[ptr ssd,ptr back,.int .i64 (wh:Int),.pointer none,.pointer none,.pointer none,.pointer none,.pointer none,.map (some sm)])
theorem qd{ops:Array Oper}{rest:List Oper}{op:Oper}{a:Act}{w:World}{Q:Exit->Act->World->Prop}(hgd:op.guard=none)(p q r s t u:Operand)(ho:op.op=.build 172 #[(0,p),(1,q),(2,r),(3,s),(4,t),(10,u)])
  (n:CaN) (ssd back wh sm:Nat) (hp:a.eval p=.agg n.C.toArray) (hq:a.eval q=.agg (layC n.sl n.jo n.pa n.lo).toArray) (hr:a.eval r=ptr ssd) (hs:a.eval s=ptr back) (ht:a.eval t=.int .i64 (wh:Int)) (hu:a.eval u=.map (some sm)) (L:Array Value) (hL:L=(ca0 n ssd back wh sm).toArray)
  (h:wpList prog ops Q rest (a.put op.dst (.agg L)) w):wpList prog ops Q (op::rest) a w:=by
 have hrun:(Instr.build 172 #[(0,.agg n.C.toArray),(1,.agg (layC n.sl n.jo n.pa n.lo).toArray),(2,ptr ssd),(3,ptr back),(4,.int .i64 (wh:Int)),(10,.map (some sm))]).run prog w=.ok (.agg L) w:=by
  rw[hL];kernel_rfl
 refine qZh hgd fun K' hK'=>?_;unfold Oper.wp;simp only[execOp,ho,qzp,qzm,qzo,hp,hq,hr,hs,ht,hu,qYm,hrun,qYl];exact hK' _ _ h
theorem CaN.C_one(n:CaN):∀v∈n.C,v.oneCell'=true:=by
 intro v hv;simp only[CaN.C,qzr,qXd,qZb]at hv;rcases hv with rfl|rfl|rfl|rfl|rfl|rfl|rfl<;>rfl
theorem uE(sl jo pa lo:Nat):∀v∈layC sl jo pa lo,v.oneCell'=true:=by
 intro v hv;simp only[qzr,qXd,qZb]at hv;rcases hv with rfl|rfl|rfl|rfl|rfl|rfl|rfl<;>rfl
def caS0(n:CaN)(wh seq:Nat)(dF:List Bk)(dO:List (Nat×Bk))(dP:List Int)(bF:List Bk)(bO:List (Nat×Bk))(bP:List Int):CaS:=
 ⟨wh,dF,dO,dP,bF,bO,bP,seq,seq+1,[],0,List.replicate n.bl (-1,false),List.replicate n.sl 0,List.replicate n.sl WI,0,[],fun _=>false,[],0,fun _=>none⟩
def ZG(own0:Nat->Nat)(w:World)(ssd back:Nat)(n:CaN)(a:CaS)(e:Ending)(w':World):Prop:=
 ∃c p own',e=.returned (.tuple #[ptr c,.int .i64 0])/\p.ssd=ssd/\p.back=back/\CaAt own' w' c n p a/\Did own0 own' w w'
theorem Mk.ca{own0 own:Nat->Nat}{w0 w:World}{c bs bl ssd back sm bjr bix bss blg bck:Nat}{us ul:Array Value}{n:CaN}{wh seq:Nat}{dF bF:List Bk}{dO bO:List (Nat×Bk)}{dP bP:List Int}
  (h:Mk own0 w0 own w c ((((((ca0 n ssd back wh sm).set 17 (ptr bjr)).set 18 (ptr bix)).set 19 (ptr bss)).set 20 (ptr blg)).set 21 (ptr bck)) bs bl us ul
   [(8,fun S w=>Ck S w bck 0 n.sl n.sl [] (fun _=>false) []),(7,fun S w=>Lg S w blg n.bl (List.replicate n.sl (fun _=>false))),(6,fun S w=>Ss S w bss (List.replicate n.sl 0)),(5,fun S w=>Ix S w bix 0 (List.replicate n.bl (-1,false)) n.sl),
    (4,fun S w=>Jn S w bjr ssd (1+2*n.pa) n.jo seq (seq+1) []),(9,fun S w=>Mp S w sm 0 (fun _=>none)),(3,fun S w=>Dv S w back bF bO bP),(2,fun S w=>Dv S w ssd dF dO dP)])
  (hok:n.Ok) (fl:dF.length=n.size) (gl:bF.length=n.bl) (hwh:wh<=1):
  CaAt own w c n ⟨ssd,back,bjr,bix,bss,blg,bck,sm⟩ {caS0 n wh seq dF dO dP bF bO bP with G:=List.replicate n.sl (fun _=>false)}where
 str:=h.str
 oc:=h.oc
 ok:=hok
 ssd:=h.part (t:=2) (R:=fun S w=>Dv S w ssd dF dO dP) oe
 back:=h.part (t:=3) (R:=fun S w=>Dv S w back bF bO bP) oe
 jr:=h.part (t:=4) (R:=fun S w=>Jn S w bjr ssd (1+2*n.pa) n.jo seq (seq+1) []) oe
 ix:=h.part (t:=5) (R:=fun S w=>Ix S w bix 0 (List.replicate n.bl (-1,false)) n.sl) oe
 ss:=h.part (t:=6) (R:=fun S w=>Ss S w bss (List.replicate n.sl 0)) oe
 lg:=h.part (t:=7) (R:=fun S w=>Lg S w blg n.bl (List.replicate n.sl (fun _=>false))) oe
 ck:=h.part (t:=8) (R:=fun S w=>Ck S w bck 0 n.sl n.sl [] (fun _=>false) []) oe
 sm:=h.part (t:=9) (R:=fun S w=>Mp S w sm 0 (fun _=>none)) oe
 far:=h.far
 nib:=h.nib
 tur:=h.tur
 on:=h.on
 ot:=h.ot
 fl:=fl
 gl:=gl
 pl:=by simp[caS0]
 sl:=by simp[caS0]
 Gl:=oe
 wh:=hwh
theorem zcm{own0:Nat->Nat}{w:World}{ssd back:Nat}{n:CaN}{dF bF:List Bk}{dO bO:List (Nat×Bk)}{dP bP:List Int}(h2:Dv (fun j=>own0 j=2) w ssd dF dO dP)(h3:Dv (fun j=>own0 j=3) w back bF bO bP)
  (far:∀j,w.heap.size<=j->own0 j=0) (nib:Nib w) (tur:Tur w) (on:own0 0=0) (ot:own0 1=0) (hok:n.Ok) (fl:dF.length=n.size) (gl:bF.length=n.bl) (wh seq:Nat) (hwh:wh<=1) (hseq:seq<1099511627776)
  (ao:Option Addr) (ln lc:Nat) (a':CaS) (hload:∀(own:Nat->Nat) (W:World) (c:Nat) (p:CaP),Did own0 own w W->CaAt own W c n p {caS0 n wh seq dF dO dP bF bO bP with G:=List.replicate n.sl (fun _=>false)}->Calls prog 136 #[ptr c,.slice ao ln lc] W (zv own W c n p a' (.int .i64 0))):
  Calls prog 74 #[.agg n.C.toArray,ptr ssd,ptr back,.int .i64 (wh:Int),.int .i64 (seq:Int),.slice ao ln lc] w (ZG own0 w ssd back n a'):=by
 have HLd:=qqh hload;clear hload;obtain⟨U,hU⟩:=qqe (n.C);obtain⟨V,hV⟩:=qqe (layC n.sl n.jo n.pa n.lo);obtain⟨w1,hw1⟩:=qqe (w.alloc (.cells U.toArray 40));have hg1:=qqg hw1;have hu1:=qqu hw1;have hrU:w1.rangeAt w.heap.size 0 U:=zh hg1;have hsU:(prog.info? 40).map (·.size)=some U.length:=by rw[hU];exact xf
 have HPl:Hid (Calls prog 14 #[.agg U.toArray] w1 fun e w'=>e=.returned (.tuple #[.agg V.toArray,.int .i64 0])/\Below w1.heap.size w1 w'):=by
  show Calls _ _ _ _ _;rw[hU,hV];obtain⟨b1,b2,s1,s2,j1,j2,l1,l2,a1,a2,p1,p2,z⟩:=hok;exact ui n.id n.bl n.sl n.jo n.pa n.lo n.ba b1 b2 s1 s2 j1 j2 l1 l2 a1 a2 p1 p2 z w1
 rw[<-hU];have H:=Y14 h2 h3 far nib tur on ot hok fl gl hU hV hg1 hu1;rw[hw1]at hrU;have HW1:=qqh hw1;have HU:=Y2 hrU hsU;clear h2 h3 far nib tur on ot hok fl gl hU hV hg1 hu1 hrU hsU hw1;go_enter func74,ntmps74
 go_wp2_with (first
  |(refine qZg rfl _ _ rfl _ _ rfl _ _ HU.o.1 underlying40 rfl HU.o.2 ?_)
  |fail)
 rw[<-HW1.o];refine HPl.out.mono ?_;rintro e w2 ⟨rfl,hb2⟩;obtain⟨h2,h3,far,nib,tur,on,ot,hok,fl,gl,hU,hV,hg1,hu1⟩:=H.o;obtain⟨w3,hw3⟩:=qqe (w2.alloc (.cells V.toArray 43));have hu2:=qqb hb2;have hu3:=qqu hw3;have hg3:=qqg hw3;have hg13:=(hu2.trans hu3).j6 hg1;have hU3:=(hu1.trans hu2).trans hu3;have hVl:V.length=7:=by rw[hV];rfl
 have hV1:∀v∈V,v.oneCell'=true:=by rw[hV];exact uE _ _ _ _
 have hsV:Hid ((prog.info? 43).map (·.size)=some V.length):=by show _=_;rw[hVl];exact xH
 have h23:=(Dv.kU _ _ _ _).new h2 hU3;have h33:=(Dv.kU _ _ _ _).new h3 hU3;have v6:w3.cell? ⟨w2.heap.size,6,none⟩=some (.int .i64 (n.size:Int)):=by
  rw[za hg3,hV];simp[layC,CaN.size]
 have u1:w3.cell? ⟨w.heap.size,1,none⟩=some (.int .i64 (n.bl:Int)):=by
  rw[za hg13,hU];simp[CaN.C]
 have hS2:∀k,Calls prog 47 #[ptr ssd] (w3.drewN k) fun e w'=>e=.returned (.int .i64 (n.size:Int))/\w'=w3.drewN k:=fun k=>by
  have:=wJ ((Dv.kU _ _ _ _).new h23 ((uur (fun _=>False) w3).drewN k));rw[fl]at this;exact this
 have hS3:∀k,Calls prog 47 #[ptr back] (w3.drewN k) fun e w'=>e=.returned (.int .i64 (n.bl:Int))/\w'=w3.drewN k:=fun k=>by
  have:=wJ ((Dv.kU _ _ _ _).new h33 ((uur (fun _=>False) w3).drewN k));rw[gl]at this;exact this
 have H3:=Y5 hU3 hg3 hg13 h23 h33;have HV:=Y4 hVl hV1 hS2 hS3;clear h2 h3 far nib tur on ot hok fl gl hU hV hg1 hu1 hb2 hu2 hu3 hg3 hg13 hU3 hVl hV1 h23 h33 hS2 hS3;have HW3:=qqh hw3;clear hw3;have HV6:=Y2 v6 u1;clear v6 u1;go_wp2_with (first
  |(refine zl rfl _ _ _ rfl _ _ _ rfl rfl (by rw[HV.o.1];rfl) hsV.out HV.o.2.1 ?_)
  |fail)
 rw[<-HW3.o];obtain⟨v6,u1⟩:=HV6.o
 go_quiet((go_at_call 47;(first|with_reducible exact Calls.quiet_of_same (HV.o.2.2.1 _)|with_reducible exact Calls.quiet_of_same (HV.o.2.2.2 _))))
 clear v6 u1;obtain⟨h2,h3,far,nib,tur,on,ot,hok,fl,gl,hU,hV,hg1,hu1⟩:=H.o;obtain⟨hU3,hg3,hg13,h23,h33⟩:=H3.o;have hud:Upd (fun _=>False) w3 (w3.drewN nq):=(uur _ w3).drewN nq;have hU4:=hU3.trans hud;have hg34:=hud.j6 hg3;have hg14:=hud.j6 hg13;generalize w3.drewN nq=w4 at*;obtain⟨L,hL⟩:=qqe (ca0 n ssd back wh w4.heap.size);obtain⟨ownA,MA⟩:=Mk.start L hU4 h2 h3 far nib tur on ot hg14 hg34;have rU:=zh hg14;have rV:=zh hg34;have hm1:Upd (fun _=>False) w4 (w4.alloc (.map #[] 0)):=(uur _ w4).alloc _;have HL:=Y2 hL MA;have HR:=Y2 rU rV;have HO:=qqh hok;have FL:=qqh fl;have GL:=qqh gl;have HUV:=Y2 hU hV;have hmm:= @run_makeMap prog;clear h2 h3 far nib tur on ot hok fl gl hU hV hg1 hu1 hU3 hg3 hg13 h23 h33 hud hU4 hg34 hg14 rU rV hm1 MA hL;rcases(show wh=0\/wh=1 by omega)with rfl|rfl
 all_goals
  go_upto_region 11 with(first
   |(refine qZg rfl _ _ rfl _ _ rfl _ _ HR.o.1 underlying40 rfl HU.o.2 ?_)
   |(refine qZg rfl _ _ rfl _ _ rfl _ _ HR.o.2 underlying43 rfl hsV.out ?_)
   |(refine qd rfl _ _ _ _ _ _ rfl n ssd back _ w4.heap.size (by show Value.agg U.toArray=_;rw[HUV.o.1]) (by show Value.agg V.toArray=_;rw[HUV.o.2]) oD oD oD oD L.toArray (by rw[HL.o.1]) ?_)
   |fail)
  have HL5:=qqh (zf HL.o.2.str);obtain⟨c,hc⟩:=qqe (w4.heap.size+1);rw[<-hc]at HL⊢;have M0:=HL.o.2;have hL0:=HL.o.1;generalize (w4.alloc (.map #[] 0)).alloc (.cells L.toArray 172)=W0 at*;generalize hsm:w4.heap.size=sm at*;clear hc HL HL5 hmm hsm HR;subst hL0;obtain⟨b1,b2,s1,s2,j1,j2,l1,l2,a1,a2,p1,p2,z⟩:=HO.o;have hq:=za M0.sb;have hv:=za M0.lb;rw[HUV.o.1]at hq;rw[HUV.o.2]at hv;have q1:W0.cell? ⟨w.heap.size,1,none⟩=some (.int .i64 (n.bl:Int)):=hq 1;have q2:W0.cell? ⟨w.heap.size,2,none⟩=some (.int .i64 (n.sl:Int)):=hq 2;have q3:W0.cell? ⟨w.heap.size,3,none⟩=some (.int .i64 (n.jo:Int)):=hq 3;have v1:W0.cell? ⟨w2.heap.size,1,none⟩=some (.int .i64 (1+2*(n.pa:Int))):=hv 1;have HN:=qqh (QB (S:=fun j=>W0.heap.size<=j) (M0.part (t:=2) (R:=fun S w=>Dv S w ssd dF dO dP) oe) (fun _ h=>h) (1+2*n.pa) n.jo seq oM j2 (by rw[FL.out];unfold CaN.size;omega) hseq);have HM:=qqh M0;clear hq hv M0;go_wp2_with fail
  try rw[show(1+2*(n.pa:Int))=((1+2*n.pa:Nat):Int) by simp]
  refine HN.o.mono ?_;rintro e Wx ⟨bjr,rfl,hX,-,hb⟩;have MX:=HM.o.add 4 oe (Jn.kU bjr ssd (1+2*n.pa) n.jo seq (seq+1) []) hb hX;have k17:=MX.cell 17;have g17:=zg MX.str 17;have HX:=qqh MX;clear hX hb MX q1 q2 q3 v1;go_upto_region 14 with fail
  have M1:=HX.o.set 17 (ptr bjr);generalize Wx.setCell ⟨c,17,none⟩ (ptr bjr)=W1 at*;clear HN HX k17 g17;have hq:=za M1.sb;have hv:=za M1.lb;rw[HUV.o.1]at hq;rw[HUV.o.2]at hv;have q1:W1.cell? ⟨w.heap.size,1,none⟩=some (.int .i64 (n.bl:Int)):=hq 1;have q2:W1.cell? ⟨w.heap.size,2,none⟩=some (.int .i64 (n.sl:Int)):=hq 2;have q3:W1.cell? ⟨w.heap.size,3,none⟩=some (.int .i64 (n.jo:Int)):=hq 3;have v1:W1.cell? ⟨w2.heap.size,1,none⟩=some (.int .i64 (1+2*(n.pa:Int))):=hv 1;have HN:=qqh (JJ n.bl n.sl W1 b1 b2 s1 s2);have HM:=qqh M1;clear hq hv M1;go_wp2_with fail
  try rw[show(1+2*(n.pa:Int))=((1+2*n.pa:Nat):Int) by simp]
  refine HN.o.mono ?_;rintro e Wx ⟨bix,rfl,hX,hb⟩;have MX:=HM.o.add 5 oe (Ix.kU bix 0 (List.replicate n.bl (-1,false)) n.sl) hb hX;have k18:=MX.cell 18;have g18:=zg MX.str 18;have HX:=qqh MX;clear hX hb MX q1 q2 q3 v1;go_upto_region 17 with fail
  have M2:=HX.o.set 18 (ptr bix);generalize Wx.setCell ⟨c,18,none⟩ (ptr bix)=W2 at*;clear HN HX k18 g18;have hq:=za M2.sb;have hv:=za M2.lb;rw[HUV.o.1]at hq;rw[HUV.o.2]at hv;have q1:W2.cell? ⟨w.heap.size,1,none⟩=some (.int .i64 (n.bl:Int)):=hq 1;have q2:W2.cell? ⟨w.heap.size,2,none⟩=some (.int .i64 (n.sl:Int)):=hq 2;have q3:W2.cell? ⟨w.heap.size,3,none⟩=some (.int .i64 (n.jo:Int)):=hq 3;have v1:W2.cell? ⟨w2.heap.size,1,none⟩=some (.int .i64 (1+2*(n.pa:Int))):=hv 1;have HN:=qqh (JK n.sl W2 s1 s2);have HM:=qqh M2;clear hq hv M2;go_wp2_with fail
  try rw[show(1+2*(n.pa:Int))=((1+2*n.pa:Nat):Int) by simp]
  refine HN.o.mono ?_;rintro e Wx ⟨bss,rfl,hX,hb⟩;have MX:=HM.o.add 6 oe (Ss.kU bss (List.replicate n.sl 0)) hb hX;have k19:=MX.cell 19;have g19:=zg MX.str 19;have HX:=qqh MX;clear hX hb MX q1 q2 q3 v1;go_upto_region 20 with fail
  have M3:=HX.o.set 19 (ptr bss);generalize Wx.setCell ⟨c,19,none⟩ (ptr bss)=W3 at*;clear HN HX k19 g19;have hq:=za M3.sb;have hv:=za M3.lb;rw[HUV.o.1]at hq;rw[HUV.o.2]at hv;have q1:W3.cell? ⟨w.heap.size,1,none⟩=some (.int .i64 (n.bl:Int)):=hq 1;have q2:W3.cell? ⟨w.heap.size,2,none⟩=some (.int .i64 (n.sl:Int)):=hq 2;have q3:W3.cell? ⟨w.heap.size,3,none⟩=some (.int .i64 (n.jo:Int)):=hq 3;have v1:W3.cell? ⟨w2.heap.size,1,none⟩=some (.int .i64 (1+2*(n.pa:Int))):=hv 1;have HN:=qqh (JI (S:=fun j=>W3.heap.size<=j) n.sl n.bl W3 (fun _ h=>h) s1 s2 b1 b2);have HM:=qqh M3;clear hq hv M3;go_wp2_with fail
  try rw[show(1+2*(n.pa:Int))=((1+2*n.pa:Nat):Int) by simp]
  refine HN.o.mono ?_;rintro e Wx ⟨blg,rfl,hX,hb,-⟩;have MX:=HM.o.add 7 oe (Lg.kU blg n.bl (List.replicate n.sl (fun _=>false))) hb hX;have k20:=MX.cell 20;have g20:=zg MX.str 20;have HX:=qqh MX;clear hX hb MX q1 q2 q3 v1;go_upto_region 23 with fail
  have M4:=HX.o.set 20 (ptr blg);generalize Wx.setCell ⟨c,20,none⟩ (ptr blg)=W4 at*;clear HN HX k20 g20;have hq:=za M4.sb;have hv:=za M4.lb;rw[HUV.o.1]at hq;rw[HUV.o.2]at hv;have q1:W4.cell? ⟨w.heap.size,1,none⟩=some (.int .i64 (n.bl:Int)):=hq 1;have q2:W4.cell? ⟨w.heap.size,2,none⟩=some (.int .i64 (n.sl:Int)):=hq 2;have q3:W4.cell? ⟨w.heap.size,3,none⟩=some (.int .i64 (n.jo:Int)):=hq 3;have v1:W4.cell? ⟨w2.heap.size,1,none⟩=some (.int .i64 (1+2*(n.pa:Int))):=hv 1;have HN:=qqh (JD (S:=fun j=>W4.heap.size<=j) n.sl n.sl W4 s1 s2 s2 (fun _ h=>h));have HM:=qqh M4;clear hq hv M4;go_wp2_with fail
  try rw[show(1+2*(n.pa:Int))=((1+2*n.pa:Nat):Int) by simp]
  refine HN.o.mono ?_;rintro e Wx ⟨bck,rfl,hX,-,hb⟩;have MX:=HM.o.add 8 oe (Ck.kU bck 0 n.sl n.sl [] (fun _=>false) []) hb hX;have k21:=MX.cell 21;have g21:=zg MX.str 21;have HX:=qqh MX;clear hX hb MX q1 q2 q3 v1;go_upto_region 26 with fail
  have M5:=HX.o.set 21 (ptr bck);generalize Wx.setCell ⟨c,21,none⟩ (ptr bck)=W5 at*;clear HN HX k21 g21;have hca:=M5.ca HO.o FL.out GL.out hwh;have hd:Did own0 _ w W5:=⟨(uuo M5.bel),M5.old,M5.new,M5.far⟩
  have HL:=qqh (HLd.out _ _ _ _ hd hca);have HD:=qqh hd;clear hca hd M5;go_wp2_with fail
  refine HL.o.mono ?_;rintro e w9 ⟨rfl,own9,hca9,hd9⟩;have HE:=Y2 hca9 (HD.o.trans hd9);clear hca9 hd9;go_wp2
  go_ret2
  exact⟨c,⟨ssd,back,bjr,bix,bss,blg,bck,sm⟩,own9,rfl,rfl,rfl,HE.o.1,HE.o.2⟩
def dsS(xs:List Int):List Value:=[.int .i64 (xs.getD 0 0),.int .i64 (xs.getD 1 0),.int .i64 (xs.getD 2 0),.int .i64 (xs.getD 3 0),.int .i64 (xs.getD 4 0),.int .i64 (xs.getD 5 0),.int .i64 (xs.getD 6 0)]
theorem qk(xs:List Int):(dsS xs).length=7:=rfl
theorem ql(xs:List Int):∀v∈dsS xs,v.oneCell'=true:=by
 intro v hv;simp only[dsS,qzr,qXd,qZb]at hv;rcases hv with rfl|rfl|rfl|rfl|rfl|rfl|rfl<;>rfl
theorem AJ{w:World}{gl ol cl:Nat}(xs:List Int)(hxl:xs.length=7)(hx:w.rangeAt gl ol (ints xs)):
  Calls prog 127 (#[.slice (some ⟨gl,ol,none⟩) 7 cl]++ #[]) w fun e w'=>e=.returned (.agg (dsS xs).toArray)/\Below w.heap.size w w':=by
 have x0:=yA hx 0 oM;have x1:=yA hx 1 oM;have x2:=yA hx 2 oM;have x3:=yA hx 3 oM;have x4:=yA hx 4 oM;have x5:=yA hx 5 oM;have x6:=yA hx 6 oM;rw[qXs]at x0;have hlt:gl<w.heap.size:=qYn w _ x0;have hds:Hid (dsS xs=[.int .i64 (xs.getD 0 0),.int .i64 (xs.getD 1 0),.int .i64 (xs.getD 2 0),.int .i64 (xs.getD 3 0),.int .i64 (xs.getD 4 0),.int .i64 (xs.getD 5 0),.int .i64 (xs.getD 6 0)]):=rfl;generalize xs.getD 0 0=y0 at*;generalize xs.getD 1 0=y1 at*;generalize xs.getD 2 0=y2 at*;generalize xs.getD 3 0=y3 at*;generalize xs.getD 4 0=y4 at*;generalize xs.getD 5 0=y5 at*;generalize xs.getD 6 0=y6 at*;clear hx hxl;go_enter func127,ntmps127
 go_wp2
 go_region
 go_wp2
 exact qYw (zI rfl _ _ w.heap.size 0 [.int .i64 y0,.int .i64 y1,.int .i64 y2,.int .i64 y3,.int .i64 y4,.int .i64 y5,.int .i64 y6] _ rfl ((qYq ..).2 (zh (zc w _ rfl))) underlying40 rfl yz) rfl
  ⟨by rw[hds.out],zR ((qxl _ w).alloc (qXv _) _) 1⟩
theorem zcn(y0 y1 y2 y3 y4 y5 y6:Int)(w:World):Calls prog 125 #[.agg #[.int .i64 y0,.int .i64 y1,.int .i64 y2,.int .i64 y3,.int .i64 y4,.int .i64 y5,.int .i64 y6]] w (zS w 7 [y0,y1,y2,y3,y4,y5,y6]):=by
 go_enter func125,ntmps125
 go_wp2
 go_ret
 exact⟨w.heap.size+1,7,rfl,qXv _,by unfold maxLen;omega,zh (zc _ _ oe),((qxl _ w).alloc (qXv _) _).alloc oe _⟩
def CaN.s0(n:CaN):Nat:=1+2*n.pa+n.jo+n.lo+n.lo+n.lo
theorem CaN.s0_size(n:CaN):n.size=n.s0+n.sl:=rfl
def CaN.I(n:CaN):List Int:=[n.id,n.bl,n.sl,n.jo,n.pa,n.lo,n.ba]
def CaN.sec(n:CaN):Bk:=sectS n.I
theorem CaN.sec_len(n:CaN):n.sec.length=64:=sU rfl
theorem CaN.may{n:CaN}(h:n.Ok)(hid:n.id<=1099511627776):mayS n.I=true:=by
 obtain⟨b1,b2,s1,s2,j1,j2,l1,l2,a1,a2,p1,p2,z⟩:=h;unfold mayS withinB bndS CaN.I;simp only[List.zip_cons_cons,List.zip_nil_right,List.all_cons,List.all_nil,inB,qxo,qYz,Bool.and_true];omega
def fmt1(F:List Bk)(O:List (Nat×Bk)):List Bk:=flushF F (O++[(0,zB)])
def Xc(n:CaN)(F:List Bk)(O:List (Nat×Bk)):List Bk:=flushF (fmt1 F O) (zW (n.s0-1)++ckO 1 n.pa (pagesB 0 []))
def fmtF(n:CaN)(F:List Bk)(O:List (Nat×Bk)):List Bk:=flushF (Xc n F O) [(0,n.sec)]
theorem uF(F:List Bk)(O:List (Nat×Bk)):(fmt1 F O).length=F.length:=zG _ _
theorem qW(n:CaN)(F:List Bk)(O:List (Nat×Bk)):(Xc n F O).length=F.length:=(zG _ _).trans (uF F O)
theorem Xd(n:CaN)(F:List Bk)(O:List (Nat×Bk)):(fmtF n F O).length=F.length:=(zG _ _).trans (qW n F O)
def QY(S:Nat->Prop)(w:World)(b:Nat)(F:List Bk)(e:Ending)(w':World):Prop:=e=.returned (.int .i64 0)/\Dv S w' b F [] []/\Upd S w w'
def fmtK(n:CaN)(F:List Bk)(O:List (Nat×Bk)):Nat->List Bk×List (Nat×Bk)
 |0=>(F,O)
 |1=>(F,O++[(0,zB)])
 |2=>(fmt1 F O,[])
 |3=>(fmt1 F O,zW (n.s0-1))
 |4=>(Xc n F O,[])
 |5=>(Xc n F O,[(0,n.sec)])
 |_=>(fmtF n F O,[])
def fmtV(d q lb q0 b:Nat):Array Value:= #[.func (.func 57) #[] #[ptr d,ptr q0,ptr (q0+1)],.func (.func 46) #[ptr b] #[],.func (.func 58) #[] #[ptr lb,ptr d],
 .func (.func 59) #[] #[ptr d,ptr lb,ptr q],.func (.func 57) #[] #[ptr d,ptr (q0+2),ptr (q0+2+1)],.func (.func 46) #[ptr b] #[]]
theorem JL{T:Nat->Prop}{w:World}{b g d q lb q0:Nat}{n:CaN}{F:List Bk}{O:List (Nat×Bk)}(hok:n.Ok)(hd:Dv T w b F O [])(hn:∀j,w.heap.size<=j->T j)(hN:Nib w)(hNT:¬T 0)(hF:F.length=n.size)(hO:O.length<=50000)
  (hg:w.heap[g]?=some (.cells (fmtV d q lb q0 b) 71 (0,0)))
  (cd:w.cell? ⟨d,0,none⟩=some (ptr b)) (cq:w.cell? ⟨q,4,none⟩=some (.int .i64 (n.pa:Int))) (l0:w.cell? ⟨lb,0,none⟩=some (.int .i64 1)) (l5:w.cell? ⟨lb,5,none⟩=some (.int .i64 (n.s0:Int)))
  (c0:w.cell? ⟨q0,0,none⟩=some (.int .i64 0)) (r1:w.rangeAt (q0+1) 0 (bkC zB)) (c2:w.cell? ⟨q0+2,0,none⟩=some (.int .i64 0)) (r3:w.rangeAt (q0+2+1) 0 (bkC n.sec))
  (hT:¬T g/\¬T d/\¬T q/\¬T lb/\¬T q0/\¬T (q0+1)/\¬T (q0+2)/\¬T (q0+2+1)):
  Calls prog 61 #[.slice (some ⟨g,0,none⟩) 6 6] w (QY T w b (fmtF n F O)):=by
 obtain⟨tg,td,tq,tl,t0,t1,t2,t3⟩:=hT;have hz:=hok.z;have hs0:=n.s0_size;have hs1:1<=n.s0:=by unfold CaN.s0;omega
 have hpz:1+n.pa+n.pa<=n.size:=by unfold CaN.size;omega
 have hp1:1<=n.pa:=by have:=hok.p1;omega
 have hR:=zbH (g:=g) (n:=6) oM
  (fun k=>[57,46,58,59,57,46].getD k 0)
  (fun k=>[#[],#[ptr b],#[],#[],#[],#[ptr b]].getD k #[])
  (fun k=>[#[ptr d,ptr q0,ptr (q0+1)],#[],#[ptr lb,ptr d],#[ptr d,ptr lb,ptr q],#[ptr d,ptr (q0+2),ptr (q0+2+1)],#[]].getD k #[])
  (fun k W=>Dv T W b (fmtK n F O k).1 (fmtK n F O k).2 []/\Upd T w W) (fun _ _=>False)
  (fun k hk W hW=>by
   have h1:=(hW.2.block g (zf hg) tg).trans hg;rw[za h1];rcases(show k=0\/k=1\/k=2\/k=3\/k=4\/k=5 by omega)with rfl|rfl|rfl|rfl|rfl|rfl<;>rfl)
  (fun k hk args W=>by rcases(show k=0\/k=1\/k=2\/k=3\/k=4\/k=5 by omega)with rfl|rfl|rfl|rfl|rfl|rfl<;>rfl)
  (fun k hk W hW=>by
   obtain⟨hdv,hu⟩:=hW;have hn':∀j,W.heap.size<=j->T j:=fun j hj=>hn j (qXx hu.size hj);have step:∀{r:DRes} {f:Nat} {a:Array Value},r.cd=0->r.P=[]->(fmtK n F O (k+1)).1=r.F->(fmtK n F O (k+1)).2=r.O->Calls prog f a W (SX T W b r)->Calls prog f a W (qw (fun _ _=>False) (fun W=>Dv T W b (fmtK n F O (k+1)).1 (fmtK n F O (k+1)).2 []/\Upd T w W)):=by
    intro r f a h1 h2 h3 h4 h;refine h.mono fun e W' ⟨he,hd',hu'⟩=>⟨0,by rw[he,h1],fun _=>⟨?_,hu.trans hu'⟩,fun h=>absurd rfl h⟩;rw[h3,h4,<-h2];exact hd'
   rcases(show k=0\/k=1\/k=2\/k=3\/k=4\/k=5 by omega)with rfl|rfl|rfl|rfl|rfl|rfl
   .exact step rfl rfl rfl rfl (sR hdv hn' 0 zB zK (hu.j4 cd td) (hu.j4 c0 t0) (hu.range r1 t1) (by have e:(fmtK n F O 0).1.length=F.length:=rfl;rw[e];omega) (by have e:(fmtK n F O 0).2.length=O.length:=rfl;rw[e];omega))
   .exact step rfl rfl rfl rfl (xo hdv hn')
   .have h3:(fmtK n F O 2).1.length=F.length:=uF F O;exact step rfl rfl rfl (by show _=[]++zW (n.s0-1);rw[qzz];rfl) (UY hdv hn' n.s0 hs1 (hu.j4 cd td) (hu.j4 l5 tl) tl td (by rw[h3];omega) (qYf _))
   .have h3:(fmtK n F O 3).1.length=F.length:=uF F O;have h4:(fmtK n F O 3).2.length=n.s0-1:=QI _;exact step rfl rfl rfl rfl (QJ hdv hn' (hN.keep hu hNT) hNT n.pa hp1 (by rw[h3];omega) (by rw[h4];omega) (hu.j4 cd td) (hu.j4 l0 tl) (hu.j4 cq tq))
   .have h3:(fmtK n F O 4).1.length=F.length:=qW n F O;exact step rfl rfl rfl rfl (sR hdv hn' 0 n.sec n.sec_len (hu.j4 cd td) (hu.j4 c2 t2) (hu.range r3 t3) (by rw[h3];omega) (by have e:(fmtK n F O 4).2.length=0:=rfl;rw[e];omega))
   .exact step rfl rfl rfl rfl (xo hdv hn'))
  (w:=w) ⟨hd,uur _ _⟩
 refine hR.mono fun e w' ⟨c,he,h1,h2⟩=>?_;by_cases hc:c=0
 .obtain ⟨hd',hu'⟩:=h1 hc;exact⟨by rw[he,hc],hd',hu'⟩
 .exact (h2 hc).elim
theorem VK{S T:Nat->Prop}{w:World}{b bb:Nat}{F G:List Bk}{O Q:List (Nat×Bk)}{P:List Int}(hd:Dv S w b F O [])(hn:∀j,w.heap.size<=j->S j)(hb:Dv T w bb G Q P)(hN:Nib w)(hgS:¬S 0)
  (n:CaN) (hok:n.Ok) (hm:mayS n.I=true) (hF:F.length=n.size) (hG:G.length=n.bl) (hO:O.length<=50000):
  Calls prog 16 #[.agg n.C.toArray,ptr b,ptr bb] w (QY S w b (fmtF n F O)):=by
 obtain⟨U,hU⟩:=qqe (n.C);obtain⟨V,hV⟩:=qqe (layC n.sl n.jo n.pa n.lo);obtain⟨Z,hZ⟩:=qqe (zB);have HZ:=Y2 (wj Z hZ) hZ;obtain⟨y,hy⟩:=qqe (n.sec);obtain⟨w1,hw1⟩:=qqe ((w.alloc (.cells U.toArray 40)).alloc (.cells #[ptr b] 46));have hu1:Upd (fun _=>False) w w1:=by rw[hw1];exact((uur _ w).alloc _).alloc _
 have g1:w1.heap[w.heap.size]?=some (.cells U.toArray 40):=by
  rw[hw1];exact(((uur (fun _=>False) (w.alloc (.cells U.toArray 40))).alloc (.cells #[ptr b] 46))).j6 (zc w _ rfl)
 have g2:w1.heap[w.heap.size+1]?=some (.cells #[ptr b] 46):=by rw[hw1];exact zc _ _ oe
 have hsU:(prog.info? 40).map (·.size)=some U.length:=by rw[hU];exact xf
 have hsV:(prog.info? 43).map (·.size)=some V.length:=by rw[hV];exact xH
 have hV1:∀v∈V,v.oneCell'=true:=by rw[hV];exact uE _ _ _ _
 have hPl:∀W,Calls prog 14 #[.agg U.toArray] W fun e w'=>e=.returned (.tuple #[.agg V.toArray,.int .i64 0])/\Below W.heap.size W w':=fun W=>by
  rw[hU,hV];obtain⟨b1,b2,s1,s2,j1,j2,l1,l2,a1,a2,p1,p2,z⟩:=hok;exact ui n.id n.bl n.sl n.jo n.pa n.lo n.ba b1 b2 s1 s2 j1 j2 l1 l2 a1 a2 p1 p2 z W
 have hPu:∀W,Nib W->Calls prog 19 #[.agg U.toArray] W fun e w'=>e=.returned (.tuple #[.agg (bkC y).toArray,.int .i64 0])/\Below W.heap.size W w':=fun W hN=>by
  rw[hU];refine(QM hN n.C rfl n.I rfl (fun W=>zcn _ _ _ _ _ _ _ W)).mono fun e w' ⟨h,hb⟩=>⟨?_,hb⟩;rcases h with⟨-,rfl⟩|⟨h,-⟩
  .rw [hy];rfl
  .rw [hm]at h;cases h
 have hMa:∀(S' T':Nat->Prop) (W:World),Dv S' W b F O []->Dv T' W bb G Q P->Calls prog 55 #[.agg U.toArray,.agg V.toArray,ptr b,ptr bb] W fun e w'=>e=.returned (.int .i64 0)/\Upd (fun _=>False) W w':=fun S' T' W h h'=>by
  have:=Qm h h' n.id n.bl n.sl n.jo n.pa n.lo n.ba;rw[show qx F G (sizeN n.sl n.jo n.pa n.lo) n.bl=0 from if_pos ⟨hF,hG⟩]at this;rw[hU,hV];exact this
 have HP:=Y3 hPl hPu hMa;have HV:=Y6 hsU hsV hV1 hU hV hy;have H:=Y8 hd hn hb hN hgS hok hF hO;have H1:=Y4 hu1 g1 g2 hw1;have rU:=zh g1;have c1:=za g2 0;rw[<-hU];clear hd hn hb hN hgS hok hF hO hU hV hy hZ hm hG hPl hPu hMa hu1 g1 g2 hw1 hsU hsV hV1;go_enter func16,ntmps16
 have hVl:V.length=7:=by rw[HV.o.2.2.2.2.1];rfl
 have hyl:y.length=64:=by rw[HV.o.2.2.2.2.2];exact n.sec_len
 have hsy:=zw y hyl;obtain⟨q,hq⟩:=qqe (w.heap.size);have HQ:=qqh hq;have H2:=Y6 H1.o.1 H1.o.2.1 H1.o.2.2.1 (zf H1.o.2.2.1) hVl hyl;clear hq hVl hyl;rw[H1.o.2.2.2]at rU;go_wp2_with (first
  |(refine qZg rfl _ _ rfl _ _ rfl _ _ rU underlying40 rfl HV.o.1 ?_)
  |fail)
 rw[<-H1.o.2.2.2];clear rU c1;refine(HP.o.1 w1).mono ?_;rintro e w3 ⟨rfl,hb3⟩;obtain⟨w4,hw4⟩:=qqe (w3.alloc (.cells V.toArray 43));have hu3:=qqb hb3;have hu4:=qqu hw4;have U4:=(H2.o.1.trans hu3).trans hu4;have rU4:=zh ((hu3.trans hu4).j6 H2.o.2.1);rw[hw4]at rU4;have HW4:=Y4 hw4 (hu3.trans hu4) U4 (show w1.heap.size<=w3.heap.size from hu3.size);have hVl:=H2.o.2.2.2.2.1;clear hb3 hu3 hu4 U4 hw4;go_wp2_with (first
  |(refine zl rfl _ _ _ rfl _ _ _ rfl rfl (by rw[hVl];rfl) HV.o.2.1 HV.o.2.2.1 ?_)
  |(refine qZg rfl _ _ rfl _ _ rfl _ _ rU4 underlying40 rfl HV.o.1 ?_)
  |fail)
 rw[<-HW4.o.1];refine(HP.o.2.1 w4 (H.o.2.2.2.1.keep HW4.o.2.2.1 id)).mono ?_;rintro e w5 ⟨rfl,hb5⟩;obtain⟨lb,hlb⟩:=qqe (w3.heap.size);obtain⟨w6,hw6⟩:=qqe (w5.alloc (.cells (bkC y).toArray 54));have hu5:=qqb hb5;have hu6:=qqu hw6;have U6:=(HW4.o.2.2.1.trans hu5).trans hu6;have gl6:w6.heap[lb]?=some (.cells V.toArray 43 (0,0)):=(hu5.trans hu6).j6 (by rw[HW4.o.1,hlb];exact zc w3 _ rfl);have gq6:=((HW4.o.2.1.trans hu5).trans hu6).j6 H2.o.2.1;have gd6:=((HW4.o.2.1.trans hu5).trans hu6).j6 H2.o.2.2.1;have gy6:=qqg hw6;have rU6:=zh gq6;have rV6:=zh gl6;have rD6:=za gd6 0;have HM6:=qqh (HP.o.2.2 _ _ w6 (H.o.1.new U6) (H.o.2.2.1.new U6));have H6:=Y8 U6 gl6 gq6 gd6 gy6 hlb hw6 (show w4.heap.size<=w5.heap.size from hu5.size);rw[hlb]at rV6;rw[hw6]at rU6 rV6 rD6;have hyl:=H2.o.2.2.2.2.2;clear hb5 hu5 hu6 U6 gl6 gq6 gd6 gy6 hw6 rU4 hlb;go_wp2_with (first
  |(refine zl rfl _ _ _ rfl _ _ (bkC y) rfl rfl jO hsy (zx y) ?_)
  |(refine qZg rfl _ _ rfl _ _ rfl _ _ rU6 underlying40 rfl HV.o.1 ?_)
  |(refine qZg rfl _ _ rfl _ _ rfl _ _ rV6 underlying43 rfl HV.o.2.1 ?_)
  |fail)
 rw[<-H6.o.2.2.2.2.2.2.1];refine HM6.o.mono ?_;rintro e w7 ⟨rfl,hu7⟩;have U7:=H6.o.1.trans hu7;have gl7:=hu7.j6 H6.o.2.1;have gq7:=hu7.j6 H6.o.2.2.1;have gd7:=hu7.j6 H6.o.2.2.2.1;have gy7:=hu7.j6 H6.o.2.2.2.2.1;have c1:w7.cell? ⟨w.heap.size+1,0,none⟩=some (ptr b):=za gd7 0;have ry:=zh gy7;obtain⟨sb,hsb⟩:=qqe (w5.heap.size);obtain⟨d,hd⟩:=qqe (w.heap.size+1);obtain⟨lb,hlb⟩:=qqe (w3.heap.size);rw[<-hsb]at gy7 ry;rw[H6.o.2.2.2.2.2.1,<-hlb]at gl7;rw[<-hd]at gd7 c1;have H7:=Y9 U7 gl7 gq7 gd7 gy7 hu7.size hd hlb hsb;have hmf:=qqf;clear hu7 U7 gl7 gq7 gd7 gy7 rU6 rV6 rD6;go_wp2_with fail
 rw[<-hd,<-hlb,<-hsb];clear hsb hd hlb;refine qZj (S:=fun W=>W.cell? ⟨d,0,none⟩=some (ptr b)/\W.rangeAt sb 0 (bkC y)) kR (⟨by rw[qYo];exact c1,by rw[qYq];exact ry⟩) (fun hHeld=>?_);refine Wl.i [0,5,6,7,3,10,4,11] ?_;iterate 8 refine Wl.t hHeld ?_
 refine Wl.o ?_;refine qZf (i:=1) (v:=.agg (bkC Z).toArray) rfl kR kR kR (fun _ _ _ h=>h) (Or.inl ⟨by rfl,?_⟩) hHeld ?_
 .intro W _;simp only[execOp,qzc,qyw,qyx,qzp,qzo,qYm,HZ.o.1 W,qYl];rfl
 simp only[qzc,qyw,qyx,Act.put,qXi,qXl,qXk];refine Wl.l 8 (fun w h=>h.2) underlying54 hsy hHeld ?_;refine Wl.r 2 (fun K hK=>?_);go_simp
 obtain⟨q0,hq0⟩:=qqe (w7.drew.heap.size);refine(QH d 0 Z _).mono ?_;rintro e w8 ⟨he,hw8⟩;rw[<-hq0]at he;subst he;have hu8:Upd (fun _=>False) w7 w8:=by rw[hw8];exact(((uur _ w7).drew).alloc _).alloc _
 have z8:w8.heap.size=q0+2:=by rw[hw8,hq0];simp
 have gb8:w8.heap[q0+1]?=some (.cells (bkC Z).toArray 54 (0,0)):=by rw[hw8];exact zc _ _ (by rw[hq0];simp)
 have ga8:w8.heap[q0]?=some (.cells #[.int .i64 0] 3 (0,0)):=by
  rw[hw8];exact((uur (fun _=>False) (w7.drew.alloc (.cells #[.int .i64 0] 3))).alloc (.cells (bkC Z).toArray 54)).j6 (zc _ _ hq0)
 have H8:=Y5 hu8 z8 ga8 gb8 (show q0=w7.heap.size from hq0);refine hK.o _ _ (⟨hu8.j4 c1 id,hu8.range ry id⟩) (fun hHeld2=>?_);clear hK K hHeld hu8 z8 gb8 ga8 hw8 hq0;refine Wl.r 9 (fun K hK=>?_);go_simp
 refine(QH d 0 y _).mono ?_;rintro e w9 ⟨he,hw9⟩;rw[H8.o.2.1]at he;subst he;have hu9:Upd (fun _=>False) w8 w9:=by rw[hw9];exact((uur _ w8).alloc _).alloc _
 have z9:w9.heap.size=q0+4:=by rw[hw9];simp[H8.o.2.1]
 have gb9:w9.heap[q0+2+1]?=some (.cells (bkC y).toArray 54 (0,0)):=by rw[hw9];exact zc _ _ (by simp[H8.o.2.1])
 have ga9:w9.heap[q0+2]?=some (.cells #[.int .i64 0] 3 (0,0)):=by
  rw[hw9];exact((uur (fun _=>False) (w8.alloc (.cells #[.int .i64 0] 3))).alloc (.cells (bkC y).toArray 54)).j6 (zc _ _ H8.o.2.1.symm)
 have H9:=Y4 hu9 z9 ga9 gb9;refine hK.o _ _ (⟨hu9.j4 hHeld2.1 id,hu9.range hHeld2.2 id⟩) (fun hHeld3=>?_);clear hK K hHeld2 hu9 z9 gb9 ga9 hw9;refine Wl.r 12 (fun K hK=>?_);go_simp
 show K _ (w9.alloc (.cells (fmtV d w.heap.size lb q0 b) 71));obtain⟨w10,hw10⟩:=qqe (w9.alloc (.cells (fmtV d w.heap.size lb q0 b) 71));have hu10:=qqu hw10;have gg10:=qqg hw10;have z10:w10.heap.size=w9.heap.size+1:=by rw[hw10];simp
 obtain⟨g,hg⟩:=qqe (w9.heap.size);rw[<-hg]at gg10 z10;rw[<-hw10,<-hg];have H10:=Y4 hu10 gg10 z10 hg;refine hK.o _ _ (⟨hu10.j4 hHeld3.1 id,hu10.range hHeld3.2 id⟩) (fun hHeld4=>?_);clear hK K hHeld3 hu10 gg10 z10 hw10 hg;refine Wl.r 13 (fun K hK=>?_);go_simp
 have HR:Hid (Calls prog 61 #[.slice (some ⟨g,0,none⟩) 6 6] w10 (fun e w'=>e=.returned (.int .i64 0)/\Dv S w' b (fmtF n F O) [] []/\Upd S w w'/\w'.cell? ⟨d,0,none⟩=some (ptr b)/\w'.rangeAt sb 0 (bkC y))):=by
  obtain⟨hd0,hn0,-,hN0,hgS0,hok0,hF0,hO0⟩:=H.o;obtain⟨U7,gl7,gq7,gd7,gy7,z67,hde,hlbe,hsbe⟩:=H7.o;obtain⟨hu8,z8,ga8,gb8,hq0⟩:=H8.o;obtain⟨hu9,z9,ga9,gb9⟩:=H9.o;obtain⟨hu10,gg10,z10,hge⟩:=H10.o;have U10:=((U7.trans hu8).trans hu9).trans hu10;have u710:=(hu8.trans hu9).trans hu10;have s0:=zf gq7;have s1:=zf gd7;have s2:=zf gl7;have s3:=zf gy7;have sN:=hN0.lt;have s4:=H2.o.2.2.2.1;have s5:=HW4.o.2.2.2;have s6:w3.heap.size<=w4.heap.size:=by rw[HW4.o.1];simp
  have s7:=H6.o.2.2.2.2.2.2.2;have hs:=n.s0_size;have hT0:∀i,w.heap.size<=i->i<w10.heap.size->¬((S i/\i<w.heap.size)\/w10.heap.size<=i):=fun i h1 h2 h=>by rcases h with h|h<;>omega
  have gl:=u710.j6 gl7;have gq:=u710.j6 gq7;rw[HV.o.2.2.2.2.1]at gl;rw[HV.o.2.2.2.1]at gq;have hr:=JL (T:=fun j=>(S j/\j<w.heap.size)\/w10.heap.size<=j) (w:=w10) (b:=b) (g:=g) (d:=d) (q:=w.heap.size) (lb:=lb) (q0:=q0) (n:=n) (F:=F) (O:=O) hok0
   (((hd0.kH (T:=fun j=>S j/\j<w.heap.size) (fun j h1 h2=>⟨h1,h2⟩)).keep U10 (fun _ _ h=>h)).wide (fun j h=> .inl h)) (fun j hj=> .inr hj) (hN0.keep U10 id) (fun h=>by rcases h with h|h;exact hgS0 h.1;have:=U10.size;omega) hF0 hO0 gg10
   (za (u710.j6 gd7) 0) (za gq 4) (za gl 0) (by have h5:=za gl 5;rw[h5];simp[layC,CaN.s0])
   (za ((hu9.trans hu10).j6 ga8) 0) (by rw[<-HZ.o.2];exact zh ((hu9.trans hu10).j6 gb8)) (za (hu10.j6 ga9) 0) (by rw[<-HV.o.2.2.2.2.2];exact zh (hu10.j6 gb9))
   ⟨hT0 _ oM oM,hT0 _ oM oM,hT0 _ oM oM,hT0 _ oM oM,hT0 _ oM oM,hT0 _ oM oM,hT0 _ oM oM,hT0 _ oM oM⟩
  refine hr.mono fun e w' ⟨he,hd',hu'⟩=>⟨he,hd'.wide (fun j h=>?_),(U10.mono fE).new hu' (fun i hi h=>?_),hu'.j4 hHeld4.1 (hT0 _ oM oM),hu'.range hHeld4.2 (hT0 _ oM oM)⟩
  .rcases h with h|h
   .exact h.1
   .exact hn0 j (by have:=U10.size;omega)
  .rcases h with h|h
   .exact h.1
   .have:=U10.size;omega
 refine HR.o.mono ?_;rintro e w11 ⟨rfl,hd11,hu11,hc11,hr11⟩;have HE:=Y2 hd11 hu11;refine hK.o _ _ (⟨hc11,hr11⟩) (fun hHeld5=>?_);clear hK K hHeld4 hd11 hu11 hc11 hr11 HR;refine Wl.r 14 (fun K hK=>?_);go_simp
 refine hK.o _ _ (hHeld5) (fun _=>?_);clear hK K hHeld5;refine Wl.d ?_;go_wp2
 go_ret
 exact⟨rfl,HE.o.1,HE.o.2⟩
def dsR(xs:List Int):List Value:=[.int .i64 (xs.getD 0 0),.int .i64 (xs.getD 1 0),.int .i64 (xs.getD 2 0),.int .i64 (xs.getD 3 0),.int .i64 (xs.getD 4 0),.bool (xs.getD 5 0==1),.int .i64 (xs.getD 6 0)]
theorem qm(xs:List Int):(dsR xs).length=7:=rfl
theorem ww(xs:List Int):∀v∈dsR xs,v.oneCell'=true:=by
 intro v hv;simp only[dsR,qzr,qXd,qZb]at hv;rcases hv with rfl|rfl|rfl|rfl|rfl|rfl|rfl<;>rfl
theorem AK{w:World}{gl ol cl:Nat}(xs:List Int)(hxl:xs.length=7)(hx:w.rangeAt gl ol (ints xs)):
  Calls prog 253 #[.slice (some ⟨gl,ol,none⟩) 7 cl] w fun e w'=>e=.returned (.agg (dsR xs).toArray)/\Below w.heap.size w w':=by
 have x0:=yA hx 0 oM;have x1:=yA hx 1 oM;have x2:=yA hx 2 oM;have x3:=yA hx 3 oM;have x4:=yA hx 4 oM;have x5:=yA hx 5 oM;have x6:=yA hx 6 oM;rw[qXs]at x0;have hlt:gl<w.heap.size:=qYn w _ x0;have hds:Hid (dsR xs=[.int .i64 (xs.getD 0 0),.int .i64 (xs.getD 1 0),.int .i64 (xs.getD 2 0),.int .i64 (xs.getD 3 0),.int .i64 (xs.getD 4 0),.bool (xs.getD 5 0==1),.int .i64 (xs.getD 6 0)]):=rfl;generalize xs.getD 0 0=y0 at*;generalize xs.getD 1 0=y1 at*;generalize xs.getD 2 0=y2 at*;generalize xs.getD 3 0=y3 at*;generalize xs.getD 4 0=y4 at*;generalize xs.getD 5 0=y5 at*;generalize xs.getD 6 0=y6 at*;clear hx hxl;go_enter func253,ntmps253
 go_wp2
 go_region
 go_wp2
 exact qYw (zI rfl _ _ w.heap.size 0 [.int .i64 y0,.int .i64 y1,.int .i64 y2,.int .i64 y3,.int .i64 y4,.bool (y5==1),.int .i64 y6] _ rfl ((qYq ..).2 (zh (zc w _ rfl))) underlying101 rfl infoThR) rfl
  ⟨by rw[hds.out],zR ((qxl _ w).alloc (qXv _) _) 1⟩
theorem xD{x:Bk}(hx:x.length=64){p s:Nat}(h:p+s<=60):((sealB x).drop p).take s=(x.drop p).take s:=by
 apply List.ext_getElem?
 intro i;by_cases hi:i<s
 .rw [List.getElem?_take_of_lt hi,List.getElem?_take_of_lt hi,qym,qym];unfold sealB;rw[qyi oh,List.getElem?_take_of_lt oM]
 .rw [List.getElem?_take_eq_none oM,List.getElem?_take_eq_none oM]
theorem vM{pre mid post:List UInt8}:((padB (pre++mid++post)).drop pre.length).take mid.length=mid:=by
 unfold padB;rw[qxx,qxx,List.drop_left' rfl,List.take_left' rfl]
theorem Xe(l:List (Nat×Nat)):∀(pre:List UInt8),pre.length+sizes l<=60->(∀p∈l,p.1<256^p.2)->numsAt (sealB (padB (pre++encB l))) pre.length (l.map (·.2))=l.map (·.1):=by
 induction l with
 |nil=>intro pre _ _;rfl
 |cons p l ih=>
  intro pre hp hf;have hsz:sizes (p::l)=p.2+sizes l:=by simp[sizes]
  have he:encB (p::l)=lowB p.1 p.2++encB l:=by simp[encB]
  simp only[qzm,numsAt,List.cons.injEq];constructor
  .rw [xD (wO (by rw[qzd,ut];omega)) oM,he,<-qxx];have:=vM (pre:=pre) (mid:=lowB p.1 p.2) (post:=encB l);rw[yj]at this;rw[this];exact YF _ _ (hf p oe)
  .have:=ih (pre++lowB p.1 p.2) (by rw[qzd,yj];omega) (fun q hq=>hf q (by simp[hq]));rw[qzd,yj,qxx]at this;rw[he];exact this
theorem JM{k:Nat}(hk:k<256){l:List (Nat×Nat)}(hl:Zt l)(mb:Bool):okGet (sectB k l) k (l.map (·.2)) mb=mb/\numsAt (sectB k l) 1 (l.map (·.2))=l.map (·.1):=by
 have hpl:=uu (k:=k) hl.2;have hsz:(l.map (·.2)).sum=sizes l:=rfl;have hbl:(lowB k 1++encB l).length=1+sizes l:=by rw[qzd,yj,ut]
 have h1:sealB (sectB k l)=sectB k l:=Wf hpl;have h2:numB ((sectB k l).take 1)=k:=by
  have:=xD hpl (p:=0) (s:=1) oM;rw[qyc,qyc]at this;have h3:=vM (pre:=[]) (mid:=lowB k 1) (post:=encB l);rw[yj,qzz,qzh,qyc]at h3;unfold sectB;rw[this,h3];exact YF _ _ oM
 have h3:endB (sectB k l) (1+sizes l)=true:=by
  unfold endB sectB;rw[xD hpl (by have:=hl.2;omega)];unfold padB;rw[<-hbl,List.drop_left' rfl,qxw];intro x hx;have:=List.mem_of_mem_take hx;rw[List.mem_replicate]at this;simpa using this.2
 refine⟨?_,?_⟩
 .unfold okGet;rw[hsz,h1,h2,h3];simp
 .have:=Xe l (lowB k 1) (by rw[yj];have:=hl.2;omega) (fun p hp=>(hl.1 p hp).1);rw[yj]at this;exact this
theorem tm{k:Nat}(hk:k<256){sz:List Nat}{xs:List Int}(h:xs.length=sz.length)(h0:∀x∈xs,0<=x)(hf:Zt (numL sz xs))(mb:Bool):
  okGet (sectB k (numL sz xs)) k sz mb=mb/\natsI (numsAt (sectB k (numL sz xs)) 1 sz)=xs:=by
 have h2:(numL sz xs).map (·.2)=sz:=by unfold numL;rw[List.map_snd_zip (by simp[h])]
 obtain⟨s1,s2⟩:=JM hk hf mb;rw[h2]at s1 s2;refine⟨s1,?_⟩;rw[s2];have:=uT h h0;unfold numsL at this;unfold natsI;rw[qzn];exact this
def numsP(b:Bk):List Nat:=numsAt b 1 VF
def okP(b:Bk):Bool:=okGet b 3 VF (mayP (natsI (numsP b)))
def cdP(b:Bk):Int:=yO b 3 VF (mayP (natsI (numsP b)))
theorem Th{xs:List Int}(hx:xs.length=20)(h:mayP xs=true):okP (sectP xs)=true/\natsI (numsP (sectP xs))=xs:=by
 obtain⟨h0,hf⟩:=uX hx h;obtain⟨s1,s2⟩:=tm (k:=3) de (sz:=VF) jX h0 hf (mayP (natsI (numsP (sectP xs))));have h3:natsI (numsP (sectP xs))=xs:=s2;refine⟨?_,h3⟩;unfold okP;rw[show okGet (sectP xs) 3 VF (mayP (natsI (numsP (sectP xs))))=mayP (natsI (numsP (sectP xs)))from s1,h3];exact h
end Go.Proofs.YtfhfbpmlnjdfoaaGreatDoor
