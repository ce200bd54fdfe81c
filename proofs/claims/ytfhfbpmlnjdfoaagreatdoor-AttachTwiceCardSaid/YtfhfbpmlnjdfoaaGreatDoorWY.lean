/- To attach what -/
import Derived.Test.YtfhfbpmlnjdfoaaGreatDoorG45
import Derived.Test.YtfhfbpmlnjdfoaaGreatDoorG41
set_option maxRecDepth 100000
set_option maxHeartbeats 4000000
namespace Go.Proofs.YtfhfbpmlnjdfoaaGreatDoor.attachTwice
open Go Go.RowKit Go.ChangeShapes Go.WideShapes Go.ChangeAt Go.Proofs.YtfhfbpmlnjdfoaaGreatDoor Tryz
theorem XN{S:Nat->Prop}{w:World}{b:Nat}{F:List Bk}{O:List (Nat×Bk)}{P:List Int}(h:Dv S w b F O P){i:Nat}(hi:i<F.length):
  Calls prog 49 #[ptr b,.int .i64 (i:Int)] w fun e w'=>e=.returned (.tuple #[.agg (bkC (F.getD i zB)).toArray,.int .i64 0])/\Below w.heap.size w w':=by
 have hc:hasC F.length (i:Int)=0:=if_neg (by omega);refine(zaV h (i:Int)).mono fun e w' hp=>?_;rcases hp with⟨h1,-⟩|⟨-,h1,h2⟩
 .exact absurd hc h1
 .rw [qxu]at h1;exact⟨h1,h2⟩
def tC(wh:Nat)(t:Bool):Array Value:=if wh=0 then#[.bool t,.bool false]else#[.bool false,.bool t]
theorem zaK{wh:Nat}{t:Bool}(h:wh<=1):(tC wh t).setIfInBounds wh (.bool true)=tC wh true:=by
 rcases(show wh=0\/wh=1 by omega)with rfl|rfl<;>rfl
theorem walk(b s j:Int)(l:List Op15)(v:Value)(w:World)(hv:Rd w 4 v l.length (vK l))(nib:Nib w)(tur:Tur w):
  Calls prog 9 #[Yc b s j,v] w fun e w'=>e=.returned (.bool true)/\Below w.heap.size w w':=by
 obtain⟨A,hA⟩:=qqe (w.heap.size);obtain⟨w1,hw1⟩:=qqe (w.alloc (.cells #[.int .i64 b,.int .i64 s,.int .i64 j] 75));have hb1:Below w.heap.size w w1:=by rw[hw1];exact(qxl _ w).alloc (qXv _) _
 have z1:w1.heap.size=A+1:=by rw[hw1,hA];simp
 have e0:w1.heap[A]?=some (.cells #[.int .i64 b,.int .i64 s,.int .i64 j] 75 (0,0)):=by rw[hw1,hA];exact zc w _ rfl
 have HF:=qqh (zbQ b s j v l w1 (hv.below hb1));have HN:=Y4 nib tur hv hb1;have HE:=Y3 e0 z1 hA;have HW:=qqh hw1;have r0:=zh e0;have hut:=underlying75;have hsi:=zbR;obtain⟨ao,cc,rfl⟩:=hv.jd;clear hv nib tur hb1 z1 e0 hw1;go_enter func9,ntmps9
 go_upto_region 1 with fail
 rw[<-HW.o,<-hA];clear hA;go_wp2_with (first
  |(refine zE (by rfl) _ _ rfl _ _ rfl _ _ r0 hut rfl hsi ?_)
  |fail)
 refine HF.o.mono ?_;rintro e w2 ⟨q,rfl,hq,hb2⟩;have hu2:=qqb hb2;have g0:=hu2.jc HE.o.1;have hB2:Below w.heap.size w w2:=HN.o.2.2.2.trans (hb2.mono HN.o.2.2.2.size);have H2:=Y5 hB2 g0 (HN.o.1.below hB2) (HN.o.2.1.below hB2) (HN.o.2.2.1.below hB2);have HQ:=qqh hq;have r0:=zh g0;clear hb2 hu2 hB2 hq HF g0;cases q with
 |false=>
  have HA:=qqh (Ub w2 H2.o.2.2.1 H2.o.2.2.2.1);clear r0;go_wp2_with fail
  refine HA.o.mono ?_;rintro e w3 ⟨rfl,hb3⟩;have H3:=qqh (H2.o.1.trans (hb3.mono H2.o.1.size));clear hb3;go_wp2
  go_ret
  exact⟨rfl,H3.o⟩
 |true=>
  obtain⟨hnn,hb,hs,hj,hl60⟩:=HQ.o.1 (by first|rfl|trivial);have HP:=qqh (SD H2.o.2.2.2.2 H2.o.2.2.1 H2.o.2.2.2.1 hnn hb hs hj hl60);obtain⟨b,rfl⟩:=qxs (show 0<=b by omega);obtain⟨s,rfl⟩:=qxs (show 0<=s by omega);obtain⟨j,rfl⟩:=qxs (show 0<=j by omega);simp only[qxu]at HP;have hokN:=Sm b s j (by omega) (by omega) (by omega) (by omega) (by omega) (by omega);obtain⟨n,hn⟩:=qqe (smN b s j);have hnum:n.bl=b/\n.sl=s/\n.jo=j/\n.pa<=2/\n.Ok/\j<=12/\b<=12/\mayS n.I=true:=by
   rw[hn];exact⟨rfl,rfl,rfl,by show(s-1)/4+1<=2;omega,hokN,by omega,by omega,CaN.may hokN (by show 7<=_;decide)⟩
  rw[<-hn]at HP;have HB:=qqh hnum;clear hnn hb hs hj hl60 hokN hn hnum HQ;go_wp2_with (first
   |(refine zE (by rfl) _ _ rfl _ _ rfl _ _ r0 hut rfl hsi ?_)
   |fail)
  refine HP.o.mono ?_;rintro e w3 ⟨c0,pp,own3,p0,a0,Z,rfl,h3,hHi,hZ0,hZ1,hgd,hb3,ho3⟩;have gA3:=(uuo (S:=fun _=>False) hb3).jc H2.o.2.1;have H3:=Y7 h3 hHi hZ0 hZ1 hgd (H2.o.1.trans (hb3.mono H2.o.1.size)) gA3;have HC:=qqh (XF h3.ssd h3.back);clear h3 hHi hZ0 hZ1 hgd hb3 ho3 gA3 HP r0;go_wp2_with fail
  refine HC.o.mono ?_;rintro e w4 ⟨x,y,m,rfl,hm,hm4,hx,hy,hb4⟩;obtain⟨own4,hown4⟩:∃own4:Nat->Nat,own4=fun j=>if w3.heap.size<=j/\j<m then 2 else if m<=j/\j<w4.heap.size then 3 else 0:=⟨_,rfl⟩
  have o0:∀j,j<w3.heap.size->own4 j=0:=fun j hj=>by rw[hown4];show(if _ then _ else _)=_;rw[if_neg (by omega),if_neg (by omega)]
  have D4:Dvs own4 w4 x y a0.dF [] a0.bF [] []:=by
   have hn:=H3.o.1.nib;have ht:=H3.o.1.tur;refine⟨hx.out fun j hj h=>?_,hy.out fun j hj h=>?_,fun j hj=>?_,hn.below hb4,ht.below hb4,o0 _ hn.lt,o0 _ ht.lt⟩
   .rw [hown4];exact if_pos h
   .rw [hown4];show(if _ then _ else _)=_;rw[if_neg (by omega),if_pos ⟨h,hj⟩]
   .rw [hown4];show(if _ then _ else _)=_;rw[if_neg (by omega),if_neg (by omega)]
  obtain⟨E,R,f0,com,fp,hH⟩:=H3.o.2.1;have hT:=hH.tel HB.o.2.2.2.2.1 HB.o.2.2.2.2.2.2.2 (by have:=H3.o.2.2.2.2.1.fit.nx;omega) H3.o.2.2.1 H3.o.2.2.2.1;have HA:=qqh (rQ D4 hT H3.o.1.gl);have gA4:=(uuo (S:=fun _=>False) hb4).jc H3.o.2.2.2.2.2.2;have hB4:=H3.o.2.2.2.2.2.1.trans (hb4.mono H3.o.2.2.2.2.2.1.size);have oA4:own4 A=0:=o0 _ (zf H3.o.2.2.2.2.2.2);have hlo4:∀i,i<w.heap.size->own4 i=0:=fun i hi=>o0 i (qXy hi H3.o.2.2.2.2.2.1.size);have H4:=Y6 hT gA4 oA4 hB4 hlo4 hH;clear D4 hT hH gA4 hB4 oA4 hlo4 o0 hown4 hx hy hm hm4 hb4 HC;go_wp2_with fail
  refine HA.o.mono ?_;rintro e w5 ⟨L,wh,sq,hQ,c1,p1,own5,li,lc,lf,rfl,h5,hp1,hp2,d5,-⟩;replace h5:CaAt own5 w5 c1 n p1 (wY n wh sq a0.dF a0.bF L):=h5;subst hp1;subst hp2;obtain⟨w5',hw5⟩:=qqe (w5.alloc (.cells #[ptr li,ptr lc,ptr lf] 67));have hu5:=qqu hw5;have d5':=d5.trans (h5.ji hu5);have h5':=h5.new hu5;have gA5:=d5'.zero H4.o.2.1 H4.o.2.2.1;have HCx:=qqh (EK h5'.ssd);have H5:=Y4 h5' d5' gA5 hQ;have HW5:=qqh hw5;clear h5 d5 hu5 d5' h5' gA5 hQ hw5 HA;go_wp2_with fail
  rw[<-HW5.o];refine HCx.out.mono ?_;rintro e w6 ⟨xa,rfl,hxa,hb6⟩;have hu6:=qqb hb6;have h6:=H5.o.1.new hu6;have HCy:=qqh (EK h6.back);have H6:=Y4 h6 (H5.o.2.1.trans (H5.o.1.ji hu6)) hxa hb6.size;clear hxa hb6 hu6 h6 HCx;go_wp2_with fail
  refine HCy.out.mono ?_;rintro e w7 ⟨ya,rfl,hya,hb7⟩;have hu7:=qqb hb7;have h7:=H6.o.1.new hu7;have d7:=H6.o.2.1.trans (H6.o.1.ji hu7);obtain⟨t0,hLt,ht1,ht2,ht3,ht4,hwh,hn1,hn2,hn3,hn4⟩:=H5.o.2.2.2;have hen:EnOk n L:=(H4.o.1.qq H5.o.2.2.2).1;have hok:n.Ok:=HB.o.2.2.2.2.1;obtain⟨M,hM⟩:=qqe (dirE L L.length);have hMok:EnOk n M:=by rw[hM];exact Es hen
  have hM2:dirE M M.length=M:=by rw[hM];exact SB L
  obtain⟨e1,e2,e3,e4,e5,e6,-,-⟩:=rS (wh:=wh) (sq:=sq) (F:=a0.dF) (G:=a0.bF) hen hok;have hnx:=H3.o.2.2.2.2.1.fit.nx;have hfp:fp+1<=a0.next:=H4.o.2.2.2.2.2.c4;have hT2:=H4.o.1.again (wh:=wh) (sq:=sq) hMok hwh (by omega) hn1 hn2 hn3 hn4;rw[<-hM]at e1;obtain⟨F1,hF1⟩:=qqe (telF n a0.dF wh sq M);rw[<-hF1]at e1 hT2;have D7:Dvs (devO own5) w7 p1.ssd p1.back F1 [] a0.bF [] []:=by
   have q1:=h7.ssd;have q2:=h7.back;rw[e1,e2,e3]at q1;rw[e4,e5,e6]at q2;have d0:∀j,own5 j=0->devO own5 j=0:=fun j h=>by unfold devO;rw[h];rfl
   exact⟨q1.out fun j _ h=>by unfold devO;rw[if_pos (.inl h)];exact h,q2.out fun j _ h=>by unfold devO;rw[if_pos (.inr h)];exact h,fun j hj=>d0 j (h7.far j hj),h7.nib,h7.tur,d0 _ h7.on,d0 _ h7.ot⟩
  have HA:=qqh (rQ D7 hT2 H3.o.1.gl);have hS:∀x∈M,crcC (a0.dF.getD (n.jq+x.s) zB)=x.m:=fun x hx=>by
   rw[hM]at hx;have hx':x∈E t0:=by rw[wC]at hx;rw[<-hLt];exact(List.mem_filter.1 hx).1
   exact H4.o.2.2.2.2.2.sf t0 ht1 ht2 x hx'
  have gA7:=d7.zero H4.o.2.1 H4.o.2.2.1;have hz5:∀j,w5'.heap.size<=j->own5 j=0:=H5.o.1.far;have s56:w5'.heap.size<=w6.heap.size:=H6.o.2.2.2;have H7:=Y16 h7 d7 gA7 hya hu7 hMok hS hwh (And.intro hen (And.intro hM hM2)) hF1 e1 e2 e3 e4 e5 e6;clear h7 d7 gA7 hya hb7 hu7 hMok hS hwh hen hM hM2 hF1 e1 e2 e3 e4 e5 e6 D7 hT2 hok hnx hfp hLt ht1 ht2 ht3 ht4 hn1 hn2 hn3 hn4 HCy hz5;go_wp2_with fail
  refine HA.o.mono ?_;rintro e w8 ⟨L2,wh2,sq2,hQ2,c2,p2,own8,li2,lc2,lf2,rfl,h8,hq1,hq2,d8,-⟩;obtain⟨hL2,hw2,hs2⟩:=hQ2;subst hw2;subst hs2;obtain rfl:M=L2:=hL2.symm;replace h8:CaAt own8 w8 c2 n p2 (wY n (1-wh) (sq+1) F1 a0.bF M):=h8;obtain⟨h7,d7,gA7,hya,hu7,hMok,hS,hwh,⟨hen,hM,hM2⟩,hF1,e1,e2,e3,e4,e5,e6⟩:=H7.o;have hok:n.Ok:=HB.o.2.2.2.2.1;obtain⟨f1,f2,f3,f4,f5,f6,-,-⟩:=rS (wh:=1-wh) (sq:=sq+1) (F:=F1) (G:=a0.bF) hMok hok;rw[hM2]at f1;obtain⟨F2,hF2⟩:=qqe (telF n F1 (1-wh) (sq+1) M);rw[<-hF2]at f1;obtain⟨b2,hb2⟩:=qqe (wY n (1-wh) (sq+1) F1 a0.bF M);rw[<-hb2]at h8 f1 f2 f3 f4 f5 f6;obtain⟨a1,ha1⟩:∃a1:CaS,a1={wY n wh sq a0.dF a0.bF L with dF:=b2.dF,dO:=b2.dO,dP:=b2.dP,bF:=b2.bF,bO:=b2.bO,bP:=b2.bP}:=⟨_,rfl⟩
  have d0:∀j,own5 j=0->devO own5 j=0:=fun j h=>by unfold devO;rw[h];rfl
  have hTw:Two w8 (mixO own5 own8) own8 c1 c2 n p1 p2 a1 b2:=by
   have q1:=h8.ssd;have q2:=h8.back;rw[hq1]at q1;rw[hq2]at q2;have hf:=h7.beside (Yf own5) d8 q1 q2 h8.fl h8.gl (d0 _ h7.on) (d0 _ h7.ot);rw[ha1];exact⟨hf,h8,(Yf own5).mix h7.far d8,hq1.symm,hq2.symm,rfl,rfl,rfl,rfl,rfl,rfl⟩
  have hz5:∀j,w5'.heap.size<=j->j<w7.heap.size->mixO own5 own8 j=0/\own8 j=0:=fun j hj hl=>by
   have q:=H5.o.1.far j hj;have q8:own8 j=0:=(d8.old j hl).trans (d0 j q);refine⟨?_,q8⟩;unfold mixO;rw[if_neg (by omega),if_neg (by omega)];exact q
  have dB:=Did.both (Yf own5) h7.far d8;have hbo:bothO own5 (devO own5)=own5:=funext fun j=>by
   unfold bothO devO;split
   .rename_i h;rw[h];rfl
   .rfl
  rw[hbo]at dB;have d8':=d7.trans dB;obtain⟨NB,hNB⟩:∃NB:Nat->Prop,NB=fun j=>w5'.heap.size<=j/\j<w7.heap.size:=⟨_,rfl⟩
  have hnt:∀j,NB j->¬(devO own5 j≠0/\devO own5 j<16):=fun j h=>by
   rw[hNB]at h;exact fun q=>q.1 (d0 j (H5.o.1.far j h.1))
  have hx8:Dv NB w8 xa F1 [] []:=by
   have q:=H6.o.2.2.1;rw[e1,e2,e3]at q;have z:=hu7.size;exact((q.out (S':=NB) fun j hj h=>by rw[hNB];exact⟨h,by omega⟩).new hu7).keep d8.upd hnt
  have hy8:Dv NB w8 ya a0.bF [] []:=by
   have q:=hya;rw[e4,e5,e6]at q;have z:=H6.o.2.2.2;exact(q.out (S':=NB) fun j hj h=>by rw[hNB];exact⟨by omega,hj⟩).keep d8.upd hnt
  have gA8:=d8'.zero H4.o.2.1 H4.o.2.2.1;obtain⟨w9,hw9⟩:=qqe (w8.alloc (.cells #[ptr li2,ptr lc2,ptr lf2] 67));have hu9:=qqu hw9;have hTw9:=hTw.new hu9;have hy9:=hTw9.fst.back;have hF2c:∀x∈M,crcC (curB b2.dF b2.dO (n.jq+x.s))=x.m:=fun x hx=>by
   have hs0:=n.jH;have hmu:=Zf n.pa hwh;have hm2:=Zf n.pa (show 1-wh<=1 by omega);rw[f1,f2];show crcC (F2.getD (n.jq+x.s) zB)=x.m;rw[hF2,qn _ (by omega),hF1,qn _ (by omega)];exact hS x hx
  have hsd:∀i,i<n.size->F1.getD i zB≠F2.getD i zB->1+wh*n.pa<=i/\i<1+wh*n.pa+n.pa:=fun i hi hne=>by
   refine Classical.byContradiction fun hc=>hne ?_;have e:1-(1-wh)=wh:=by omega
   rw[hF2,qn i (by rw[e];omega)]
  have HG:=Y9 hTw9 hF2c hsd (hx8.new hu9) (hy8.new hu9) (d8'.trans (hTw.ji hu9)) hz5 (hu9.jc gA8.1) gA8.2;have HSm:Hid (Calls prog 48 #[ptr p1.back,ptr ya] w9 fun e w'=>e=.returned (.bool true)/\Below w9.heap.size w9 w'):=by
   have q:=hTw9.fst.back;rw[ha1]at q;have q:Dv (fun j=>mixO own5 own8 j=3) w9 p1.back b2.bF b2.bO b2.bP:=q;rw[f4,f5,f6]at q;exact zbT q (hy8.new hu9)
  have HRd:Hid (a1.NoP/\b2.NoP/\∀k:Nat,k<n.bl->(∃y,(a1.jn n (k:Int)).2=(y,0)/\(b2.jn n (k:Int)).2=(y,0))/\getC a1.ps (k:Int)=getC b2.ps (k:Int)/\getV a1.ps (k:Int)=getV b2.ps (k:Int)):=by
   obtain⟨pl1,pl2,pl3⟩:=XK (wh:=wh) (sq:=sq) (F:=a0.dF) (G:=a0.bF) hen hok;obtain⟨pr1,pr2,pr3⟩:=XK (wh:=1-wh) (sq:=sq+1) (F:=F1) (G:=a0.bF) hMok hok;rw[hM2,<-hb2]at pr2 pr3;rw[<-hb2]at pr1;rw[<-hM]at pl2 pl3;have n1:a1.NoP:=by rw[ha1];exact⟨f3,f6⟩
   have n2:b2.NoP:=⟨f3,f6⟩
   exact⟨n1,n2,fun k hk=>WZ (M:=M) ⟨n1.1,n1.2,n2.1,n2.2⟩ (by rw[ha1];exact⟨rfl,rfl,rfl,rfl⟩) hF2c (by rw[ha1];exact pl1) pr1 (by rw[ha1];exact pl2) pr2 (by rw[ha1];exact pl3) pr3 hk⟩
  have HL:=Y11 hen hM hMok ha1 hb2 f1 f2 f3 f4 f5 f6;have HW9:=qqh hw9;have HWh:=qqh hwh;have HF1:=Y3 hF1 (show F1.length=n.size by rw[hF1];exact(zC _ _).trans H3.o.1.fl) (show F2.length=n.size by rw[hF2,hF1];exact(zC _ _).trans ((zC _ _).trans H3.o.1.fl));clear hTw9 hF2c hsd hx8 hy8 hy9 d8' hz5 gA8 hw9 hu9 hTw hnt hNB hbo dB d0 ha1 hb2 f1 f2 f3 f4 f5 f6 hF2 hF1 e1 e2 e3 e4 e5 e6 hM2 hM hen hS hMok hya hu7 gA7 d7 h7 h8 hq1 hq2 d8 hok HA s56 hwh hL2;go_wp2_with fail
  rw[<-HW9.o];refine HSm.out.mono ?_;rintro e w10 ⟨rfl,hb10⟩;have hu10:=qqb hb10;obtain⟨T,hT⟩:=qqe (layC n.sl n.jo n.pa n.lo);have hT7:T.length=7:=by rw[hT];rfl
  have hT1:∀v∈T,v.oneCell'=true:=by rw[hT];intro v hv;simp[layC]at hv;rcases hv with rfl|rfl|rfl|rfl|rfl|rfl|rfl<;>rfl
  have hsT:(prog.info? 43).map (·.size)=some T.length:=by rw[hT7];kernel_rfl
  have HLy:=qqh (VM (HG.o.1.new hu10).snd);rw[<-hT]at HLy;have HT:=qqh hT;have HU10:=qqh hu10;clear hT hb10 hu10 HSm;go_wp2_with fail
  refine HLy.out.mono ?_;rintro e w11 ⟨rfl,hb11⟩;obtain⟨w12,hw12⟩:=qqe ((w11.alloc (.cells T.toArray 43)).alloc (.cells #[.bool false,.bool false] 111));have hu12:Upd (fun _=>False) w9 w12:=by rw[hw12];exact((HU10.o.trans (uuo hb11)).alloc _).alloc _
  obtain⟨gL,hgL⟩:=qqe (w11.heap.size);have k12:w12.heap[gL]?=some (.cells T.toArray 43 (0,0))/\w12.heap[gL+1]?=some (.cells #[.bool false,.bool false] 111 (0,0)):=by
   rw[hw12,hgL];exact⟨(qxk _ _ _ (by simp)).trans (zc w11 _ rfl),zc _ _ (by simp)⟩
  have hz9:w9.heap.size<=gL:=by rw[hgL];exact qXx HU10.o.size hb11.size
  have H12:=Y5 hw12 hu12 hgL k12 hz9;clear hw12 hu12 hgL k12 hz9 hb11 HLy;go_wp2_with (first
   |(refine zk rfl _ _ _ rfl _ _ T rfl rfl (by rw[hT7];rfl) hsT hT1 ?_)
   |fail)
  rw[<-H12.o.2.2.1,<-H12.o.1];go_loopg[23] n.size (fun gk s23 wr=>∃i:Nat,i+gk=n.size/\s23=.int .i64 (i:Int)/\Upd (fun j=>j=gL+1) w12 wr/\∃tb:Bool,wr.heap[gL+1]?=some (.cells (tC wh tb) 111 (0,0)))
  case atStart=>exact⟨0,by omega,rfl,uur _ _,false,by rw[H12.o.2.2.2.1.2];unfold tC;split<;>rfl⟩
  case round=>
   obtain⟨i,hi,rfl,hur,tb,htb⟩:=hrel;obtain⟨hTw,hMc,hsd,hxd,-,-,hz,-⟩:=HG.o;have z9:=H12.o.2.2.2.2;have gz:∀g,w9.heap.size<=g->mixO own5 own8 g=0/\own8 g=0:=fun g hg=>⟨hTw.fst.far g hg,hTw.snd.far g hg⟩
   have hTr:=(hTw.new H12.o.2.1).jt hur (fun j e=>by
    subst e;have h1:=hTw.fst.nib.lt;have h2:=hTw.fst.tur.lt;exact⟨gz _ (by omega),by omega,by omega⟩)
   have hxr:=((hxd.out (S':=fun j=>j<w9.heap.size) (fun j hj _=>hj)).new H12.o.2.1).keep hur (fun j hj e=>by omega);have gLr:=(hur.block gL (zf H12.o.2.2.2.1.1) (by omega)).trans H12.o.2.2.2.1.1;have HR:=Y5 hTr hxr gLr hur htb;have hF2e:a1.dF=F2:=by rw[HL.o.2.2.2.1];exact HL.o.2.2.2.2.2.1
   have hs0:=hTr.fst.ssd;rw[hF2e]at hs0;have HX:=qqh hs0;clear hTw hMc hsd hxd hz gz hTr hxr gLr hur htb hs0 hF2e z9;go_wp2_with fail
   refine(vV HX.o).mono ?_;rintro e wq ⟨rfl,hwq⟩;rw[hwq];clear hwq wq;rw[HF1.o.2.2];by_cases hlt:i<n.size
   .have q1:(i:Int)<(n.size:Int):=by omega
    obtain⟨hTr,hxr,gLr,hur,htb⟩:=HR.o;obtain⟨y1,hy1⟩:=qqe (F1.getD i zB);obtain⟨y2,hy2⟩:=qqe (F2.getD i zB);have l1:i<F1.length:=by rw[HF1.o.2.1];exact hlt
    have l2:i<F2.length:=by rw[HF1.o.2.2];exact hlt
    have hl1:y1.length=64:=by rw[hy1,qyh,qyn l1];exact hxr.good.f64 _ (qyz l1)
    have hl2:y2.length=64:=by rw[hy2,qyh,qyn l2];exact HX.o.good.f64 _ (qyz l2)
    have hfa:=XN hxr l1;rw[<-hy1]at hfa;have HFa:=qqh hfa;have HY:=Y5 hy1 hy2 l2 hl1 hl2;have hz4:=HB.o.2.2.2.2.1.z;have s1:=zw y1 hl1;have s2:=zw y2 hl2;have utB:=underlying54;clear hTr hxr gLr hur htb hfa hy1 hy2 l1 l2;go_wp2_with fail
    refine HFa.out.mono ?_;rintro e wa ⟨rfl,hba⟩;obtain⟨wb,hwb⟩:=qqe (wa.alloc (.cells (bkC y1).toArray 54));have hub:Upd (fun _=>False) wr wb:=by rw[hwb];exact(uuo hba).alloc _
    have gb:=qqg hwb;obtain⟨g1,hg1⟩:=qqe (wa.heap.size);rw[<-hg1]at gb;have hfb:=XN (HX.o.new hub) HY.o.2.2.1;rw[<-HY.o.2.1]at hfb;have HFb:=qqh hfb;have Hb:=Y4 hwb hub gb hg1;clear hwb hub gb hg1 hfb hba HFa;go_wp2_with (first
     |(refine zk rfl _ _ _ rfl _ _ (bkC y1) rfl rfl (by rw[zn,hl1];rfl) s1 (zv y1) ?_)
     |fail)
    rw[<-Hb.out.1,<-Hb.out.2.2.2];refine HFb.out.mono ?_;rintro e wc ⟨rfl,hbc⟩;obtain⟨wd,hwd⟩:=qqe (wc.alloc (.cells (bkC y2).toArray 54));have hud:Upd (fun _=>False) wb wd:=by rw[hwd];exact(uuo hbc).alloc _
    have gd:=qqg hwd;obtain⟨g2,hg2⟩:=qqe (wc.heap.size);rw[<-hg2]at gd;have r1:=hud.range (zh Hb.out.2.2.1) (fun h=>h);have r2:=zh gd;have gLd:=(Hb.out.2.1.trans hud).jc HR.o.2.2.1;have k0:wd.cell? ⟨gL,0,none⟩=some (.int .i64 1):=by rw[za gLd 0,HT.o];rfl
    have k1:wd.cell? ⟨gL,1,none⟩=some (.int .i64 ((1+2*n.pa:Nat):Int)):=by rw[za gLd 1,HT.o];rfl
    have Hd:=Y4 hwd (Hb.out.2.1.trans hud) gd hg2;clear hud gd hbc HFb gLd;by_cases he:y1=y2
    .have heq:∀W:World,(binOp .neq 54 (.agg (bkC y1).toArray) (.agg (bkC y2).toArray)).run prog W=.ok (.bool false) W:=by
      intro W;rw[run_neq_bk _ _ hl1 hl2];simp[he]
     have HEq:=qqh he;rw[hwd]at r1 r2;rw[hg2]at r2;clear he k0 k1 hwd hg2;go_wp2_with (first
      |(refine zk rfl _ _ _ rfl _ _ (bkC y2) rfl rfl (by rw[zn,hl2];rfl) s2 (zv y2) ?_)
      |(refine zE (by rfl) _ _ rfl _ _ rfl _ _ r1 utB rfl s1 ?_)
      |(refine zE (by rfl) _ _ rfl _ _ rfl _ _ r2 utB rfl s2 ?_)
      |fail)
     have hz4:=HB.o.2.2.2.2.1.z;rw[<-Hd.out.1];go_roundg (gk-1)
     case measure=>omega
     case rel=>exact⟨i+1,by omega,by go_num,HR.o.2.2.2.1.trans (Hd.out.2.1.mono (fun _ _ h=>h.elim)),tb,Hd.out.2.1.jc HR.o.2.2.2.2⟩
    .have heq:∀W:World,(binOp .neq 54 (.agg (bkC y1).toArray) (.agg (bkC y2).toArray)).run prog W=.ok (.bool true) W:=by
      intro W;rw[run_neq_bk _ _ hl1 hl2];simp[he]
     obtain⟨i1,i2⟩:=HG.o.2.2.1 i hlt (by rw[<-HY.o.1,<-HY.o.2.1];exact he);have hwh:=HWh.out;have hp1:1<=n.pa:=by have:=HB.o.2.2.2.2.1.p1;omega
     have hmu:=Zf n.pa hwh;have hn1:¬((i:Int)<1):=by omega
     have hn2:¬(((1+2*n.pa:Nat):Int)<=(i:Int)):=by omega
     have HI:=Y4 i1 i2 hp1 hmu;rw[hwd]at r1 r2 k0 k1;rw[hg2]at r2;clear he hwd hg2 i1 i2 hwh hp1 hmu;go_wp2_with (first
      |(refine zk rfl _ _ _ rfl _ _ (bkC y2) rfl rfl (by rw[zn,hl2];rfl) s2 (zv y2) ?_)
      |(refine zE (by rfl) _ _ rfl _ _ rfl _ _ r1 utB rfl s1 ?_)
      |(refine zE (by rfl) _ _ rfl _ _ rfl _ _ r2 utB rfl s2 ?_)
      |fail)
     rw[<-Hd.out.1]at k0⊢;obtain⟨i1,i2,hp1,hmu⟩:=HI.o;obtain⟨U,hU⟩:=qqe (n.C);obtain⟨q,hq⟩:=qqe (i-1);have hpz:n.pa<=4096:=HB.o.2.2.2.2.1.p2;have x1:IntKind.i64.wrap ((i:Int)-1)=(q:Int):=by rw[qxv _ (by omega)];omega
     have hqd:q/n.pa=wh:=by
      have hwh:=HWh.out;rcases(show wh=0\/wh=1 by omega)with e|e
      .rw [e]at i1 i2⊢;exact Nat.div_eq_of_lt (by omega)
      .rw [e]at i1 i2⊢;rw[Nat.div_eq_iff (by omega)];omega
     have x2:IntKind.i64.wrap ((q:Int).tdiv (n.pa:Int))=(wh:Int):=by
      rw[<-Int.ofNat_tdiv,hqd];exact qxv _ (by have:=HWh.out;omega)
     have x2':IntKind.i64.wrap ((q:Int)/(n.pa:Int))=(wh:Int):=by
      rw[<-Int.natCast_ediv,hqd];exact qxv _ (by have:=HWh.out;omega)
     have x3:¬(n.pa:Int)=0:=by omega
     have x3':¬n.pa=0:=by omega
     have hfU:∀W:World,(Instr.field 40 (.agg U.toArray) 4).run prog W=.ok (.int .i64 (n.pa:Int)) W:=fun W=>by rw[hU];kernel_rfl
     have hTd:=HR.o.1.new Hd.out.2.1;have hsu:=Rv (hTd.new ((uur _ wd).drew)).snd;rw[<-hU]at hsu;have HSu:=qqh hsu;have hht:=Hd.out.2.1.jc HR.o.2.2.2.2;have HTB:=qqh hht;have HQq:=Y2 hq hU;clear i1 i2 hmu hq hqd hpz hp1 hU hTd hsu hht k1 hn1 hn2 heq r1 r2;refine qZj (S:=fun W=>W.cell? ⟨gL,0,none⟩=some (.int .i64 1)) (by kernel_rfl) (by rw[qYo];exact k0) (fun hHeld=>?_);refine Wl.i [0,1,2] ?_;iterate 3 refine Wl.t hHeld ?_
     refine Wl.o ?_;refine qZf (i:=3) (v:=.int .i64 (q:Int)) rfl (by kernel_rfl) (by kernel_rfl) (by kernel_rfl) (fun _ _ _ h=>h) (Or.inl ⟨by rfl,?_⟩) hHeld ?_
     .intro W hSw;go_simp
     simp only[qzc,qyw,qyx,Act.put,qXi,qXl,qXk];refine Wl.i [4] ?_;refine Wl.t hHeld ?_;refine Wl.o ?_;refine Wl.r 5 (fun K hK=>?_);go_simp
     refine HSu.out.mono ?_;rintro e we ⟨rfl,hbe⟩;have hue:Upd (fun _=>False) wd we:=((uur (fun _=>False) wd).drew).trans (uuo hbe);have hH1:=hue.ja k0 (fun h=>h);refine hK.o _ _ hH1 (fun _=>?_);clear hK K hHeld;refine Wl.i [6] ?_;refine Wl.t hH1 ?_;refine Wl.o ?_;refine qZf (i:=7) (v:=.int .i64 (wh:Int)) rfl (by kernel_rfl) (by kernel_rfl) (by kernel_rfl) (fun _ _ _ h=>h) (Or.inl ⟨by rfl,?_⟩) hH1 ?_
     .intro W hSw;go_simp
     simp only[qzc,qyw,qyx,Act.put,qXi,qXl,qXk];have hge:=hue.jc HTB.o;have hwh:=HWh.out;have hw0:(0:Int)<=(wh:Int):=by omega
     have hw2:(wh:Int)<2:=by omega
     have kc:∃bb,we.cell? ⟨gL+1,wh,none⟩=some (.bool bb):=by
      rw[za hge wh];unfold tC;rcases(show wh=0\/wh=1 by omega)with e|e<;>rw[e]
      .exact ⟨tb,rfl⟩
      .exact ⟨tb,rfl⟩
     obtain⟨bb,kc⟩:=kc;have kf:=zg hge wh;have He:=Y2 hue hge;refine qZf (i:=8) (v:=.pointer (some ⟨gL+1,wh,none⟩)) rfl (by kernel_rfl) (by kernel_rfl) (by kernel_rfl) (fun _ _ _ h=>h) (Or.inl ⟨by rfl,?_⟩) hH1 ?_
     .intro W hSw;go_simp
     simp only[qzc,qyw,qyx,Act.put,qXi,qXl,qXk];clear hue hge hbe HSu;refine Wl.r 9 (fun K hK=>?_);go_simp
     refine hK.o _ _ ((zj we (gL+1) wh (.bool true)).ja hH1 (by omega)) (fun _=>?_);clear hK K;refine Wl.d ?_;clear hH1 kc kf hw0 hw2 x1 x2 x3 x2' x3' hfU k0;go_wp2_with fail
     have hz4:=HB.o.2.2.2.2.1.z;go_roundg (gk-1)
     case measure=>omega
     case rel=>exact⟨i+1,by omega,by go_num,HR.o.2.2.2.1.trans (((Hd.out.2.1.trans He.out.1).mono (fun _ _ h=>h.elim)).trans (zj _ _ _ _)),true,(zi He.out.2 wh (.bool true)).trans (by rw[zaK hwh])⟩
   .obtain rfl:i=n.size:=by omega
    have q1:¬((n.size:Int)<(n.size:Int)):=by omega
    obtain⟨hTr,hxr,gLr,hur,htb⟩:=HR.o;have gAr:=(hur.block A (qXy (zf HG.o.2.2.2.2.2.2.2.1) H12.o.2.1.size) (by have:=zf HG.o.2.2.2.2.2.2.2.1;have:=H12.o.2.2.2.2;omega)).trans (H12.o.2.1.jc HG.o.2.2.2.2.2.2.2.1);obtain⟨wE,hwE⟩:∃wE:World,wE=wr:=⟨_,rfl⟩
    rw[<-hwE]at hTr gAr htb hur⊢;have nA:bothO (mixO own5 own8) own8 A=0:=HG.o.2.2.2.2.2.2.2.2;have nT:bothO (mixO own5 own8) own8 (gL+1)=0:=by
     have z9:=H12.o.2.2.2.2;unfold bothO;rw[HG.o.1.fst.far _ (by omega),HG.o.1.snd.far _ (by omega)];rfl
    have HX2:=Y4 hTr (And.intro gAr nA) (And.intro htb nT) hur;clear hTr hxr gLr hur htb gAr nA nT HR HX hwE hlt hi;have hb12:=HB.o.2.2.2.2.2.2.1;go_wp2_with fail
    go_loopg[28] b (fun gk s28 wz=>∃k:Nat,k+gk=b/\s28=.int .i64 (k:Int)/\∃oA oB,Two wz oA oB c1 c2 n p1 p2 a1 b2/\Did (bothO (mixO own5 own8) own8) (bothO oA oB) wE wz)
    case atStart=>exact⟨0,by omega,rfl,_,_,HX2.o.1,Did.refl (HX2.o.1.ji (uur _ wE)).far⟩
    case round=>
     obtain⟨k,hk,rfl,oA,oB,hT,hD⟩:=hrel;have gA:=hD.zero HX2.o.2.1.1 HX2.o.2.1.2;have sA:=za gA.1 0;simp at sA;by_cases hkb:k<b
     .have q1:(k:Int)<(b:Int):=by omega
      obtain⟨n1,n2,hrd⟩:=HRd.out;obtain⟨⟨y,hy1,hy2⟩,hgc,hgv⟩:=hrd k (by rw[HB.o.1];exact hkb);have Hk:=Y5 hT hD hy2 hgc hgv;have HRa:=qqh (tR hT.fst n1 hy1);have utB:=underlying54;have utP:=underlying95;clear hT hD hy1 hy2 hgc hgv hrd n1 n2 gA;go_wp2_with fail
      refine HRa.out.mono ?_;rintro e wa ⟨rfl,hyl,oA1,hca,hda⟩;obtain⟨oB1,T1,D1⟩:=Hk.out.1.byA hca hda;obtain⟨wb,hwb⟩:=qqe (wa.alloc (.cells (bkC y).toArray 54));have hub:=qqu hwb;obtain⟨g1,hg1⟩:=qqe (wa.heap.size);have gb:wb.heap[g1]?=some (.cells (bkC y).toArray 54 (0,0)):=by rw[hwb,hg1];exact zc wa _ rfl
      have Tb:=T1.new hub;have nb:bothO oA1 oB1 g1=0:=D1.far _ (by omega);have HRb:=qqh (tR Tb.snd HRd.out.2.1 Hk.out.2.2.1);have Hb:=Y6 hwb hg1 Tb ((Hk.out.2.1.trans D1).trans (T1.ji hub)) gb nb;have s1:=zw y hyl;clear T1 D1 hwb hub hg1 gb Tb nb hca hda HRa;go_wp2_with (first
       |(refine zk rfl _ _ _ rfl _ _ (bkC y) rfl rfl (by rw[zn,hyl];rfl) s1 (zv y) ?_)
       |fail)
      rw[<-Hb.out.1,<-Hb.out.2.1];refine HRb.out.mono ?_;rintro e wc ⟨rfl,-,oB2,hcb,hdb⟩;obtain⟨oA2,T2,D2⟩:=Hb.out.2.2.1.byB hcb hdb;obtain⟨wd,hwd⟩:=qqe (wc.alloc (.cells (bkC y).toArray 54));have hud:=qqu hwd;obtain⟨g2,hg2⟩:=qqe (wc.heap.size);have gd:wd.heap[g2]?=some (.cells (bkC y).toArray 54 (0,0)):=by rw[hwd,hg2];exact zc wc _ rfl
      have Td:=T2.new hud;have nd:bothO oA2 oB2 g2=0:=D2.far _ (by omega);have gb2:=(D2.trans (T2.ji hud)).zero Hb.out.2.2.2.2.1 Hb.out.2.2.2.2.2;have HPa:=qqh (uE Td.fst (k:Int));have Hd:=Y7 hwd hg2 Td ((Hb.out.2.2.2.1.trans D2).trans (T2.ji hud)) gb2 gd nd;clear T2 D2 hwd hud hg2 gd Td nd gb2 hcb hdb HRb;obtain⟨px,hpx⟩:=qqe (getV a1.ps (k:Int));obtain⟨pc,hpc⟩:=qqe ((getC a1.ps (k:Int)==0));have HP0:=Y2 hpx hpc;rw[<-hpx,<-hpc]at HPa;clear hpx hpc;obtain⟨p0x,p0d⟩:=px;go_wp2_with (first
       |(refine zk rfl _ _ _ rfl _ _ (bkC y) rfl rfl (by rw[zn,hyl];rfl) s1 (zv y) ?_)
       |fail)
      rw[<-Hd.out.1,<-Hd.out.2.1];refine HPa.out.mono ?_;rintro e we ⟨rfl,oA3,hca,hda⟩;obtain⟨oB3,T3,D3⟩:=Hd.out.2.2.1.byA hca hda;have s2:(prog.info? 95).map (·.size)=some ([Value.int .i64 p0x,.bool p0d]:List Value).length:=qj;have o2:∀v∈([Value.int .i64 p0x,.bool p0d]:List Value),v.oneCell'=true:=by intro v hv;simp at hv;rcases hv with rfl|rfl<;>rfl
      obtain⟨wf,hwf⟩:=qqe (we.alloc (.cells #[.int .i64 p0x,.bool p0d] 95));have huf:=qqu hwf;obtain⟨g3,hg3⟩:=qqe (we.heap.size);have gf:wf.heap[g3]?=some (.cells #[.int .i64 p0x,.bool p0d] 95 (0,0)):=by rw[hwf,hg3];exact zc we _ rfl
      have Tf:=T3.new huf;have nf:bothO oA3 oB3 g3=0:=D3.far _ (by omega);have Df:=D3.trans (T3.ji huf);have gb3:=Df.zero Hd.out.2.2.2.2.1.1 Hd.out.2.2.2.2.1.2;have gd3:=Df.zero Hd.out.2.2.2.2.2.1 Hd.out.2.2.2.2.2.2;have hpb:=uE Tf.snd (k:Int);rw[<-Hk.out.2.2.2.1,<-Hk.out.2.2.2.2,<-HP0.o.1,<-HP0.o.2]at hpb;have HPb:=qqh hpb;have Hf:=Y8 hwf hg3 Tf (Hd.out.2.2.2.1.trans Df) gb3 gd3 gf nf;clear T3 D3 hwf huf hg3 gf Tf nf Df gb3 gd3 hpb hca hda HPa;go_wp2_with (first
       |(refine zk rfl _ _ _ rfl _ _ [Value.int .i64 p0x,.bool p0d] rfl rfl rfl s2 o2 ?_)
       |fail)
      rw[<-Hf.out.1,<-Hf.out.2.1];refine HPb.out.mono ?_;rintro e wg ⟨rfl,oB4,hcb,hdb⟩;obtain⟨oA4,T4,D4⟩:=Hf.out.2.2.1.byB hcb hdb;obtain⟨wh',hwh'⟩:=qqe (wg.alloc (.cells #[.int .i64 p0x,.bool p0d] 95));have huh:=qqu hwh';obtain⟨g4,hg4⟩:=qqe (wg.heap.size);have gh:wh'.heap[g4]?=some (.cells #[.int .i64 p0x,.bool p0d] 95 (0,0)):=by rw[hwh',hg4];exact zc wg _ rfl
      have Dh:=D4.trans (T4.ji huh);have r1:=zh (Dh.zero Hf.out.2.2.2.2.1.1 Hf.out.2.2.2.2.1.2).1;have r2:=zh (Dh.zero Hf.out.2.2.2.2.2.1.1 Hf.out.2.2.2.2.2.1.2).1;have r3:wh'.rangeAt g3 0 [.int .i64 p0x,.bool p0d]:=zh (Dh.zero Hf.out.2.2.2.2.2.2.1 Hf.out.2.2.2.2.2.2.2).1;have r4:wh'.rangeAt g4 0 [.int .i64 p0x,.bool p0d]:=zh gh;have heq:∀W:World,(binOp .neq 54 (.agg (bkC y).toArray) (.agg (bkC y).toArray)).run prog W=.ok (.bool false) W:=by
       intro W;rw[run_neq_bk _ _ hyl hyl];simp
      have hpq:∀W:World,(binOp .neq 95 (.agg #[.int .i64 p0x,.bool p0d]) (.agg #[.int .i64 p0x,.bool p0d])).run prog W=.ok (.bool false) W:=by
       intro W;rw[run_neq_place];simp
      have Hh:=Y3 hwh' (T4.new huh) (Hf.out.2.2.2.1.trans Dh);rw[hwh']at r1 r2 r3 r4;rw[hg4]at r4;clear T4 D4 hwh' huh hg4 gh Dh hcb hdb HPb;go_wp2_with (first
       |(refine zk rfl _ _ _ rfl _ _ [Value.int .i64 p0x,.bool p0d] rfl rfl rfl s2 o2 ?_)
       |(refine zE (by rfl) _ _ rfl _ _ rfl _ _ r1 utB rfl s1 ?_)
       |(refine zE (by rfl) _ _ rfl _ _ rfl _ _ r2 utB rfl s1 ?_)
       |(refine zE (by rfl) _ _ rfl _ _ rfl _ _ r3 utP rfl s2 ?_)
       |(refine zE (by rfl) _ _ rfl _ _ rfl _ _ r4 utP rfl s2 ?_)
       |fail)
      rw[<-Hh.out.1];go_roundg (gk-1)
      case measure=>omega
      case rel=>exact⟨k+1,by omega,by go_num,oA4,oB4,Hh.out.2.1,Hh.out.2.2⟩
     .obtain rfl:k=b:=by omega
      have q1:¬((k:Int)<(k:Int)):=by omega
      have hg:=(hD.zero HX2.o.2.2.1.1 HX2.o.2.2.1.2).1;have kt:∃t0 t1:Bool,wr.cell? ⟨gL+1,0,none⟩=some (.bool t0)/\wr.cell? ⟨gL+1,1,none⟩=some (.bool t1)/\(t0=false\/t0=true/\t1=false):=by
       rw[za hg 0,za hg 1];unfold tC;have hwh:=HWh.out;rcases(show wh=0\/wh=1 by omega)with e|e<;>rw[e]
       .exact ⟨tb,false,rfl,rfl,by cases tb<;>simp⟩
       .exact ⟨false,tb,rfl,rfl,.inl rfl⟩
      obtain⟨t0,t1,kt0,kt1,kt2⟩:=kt;have HA:=qqh (Ub wr hT.fst.nib hT.fst.tur);have hlo9:∀i,i<w.heap.size->bothO (mixO own5 own8) own8 i=0:=fun i hi=>(HG.o.2.2.2.2.2.1.old i (qXy hi H4.o.2.2.2.1.size)).trans (H4.o.2.2.2.2.1 i hi);have b1:Below w.heap.size w w9:=zl H4.o.2.2.2.1 HG.o.2.2.2.2.2.1.upd (qXv _) (fun i hi=>Nat.le_of_not_lt fun hl=>hi.1 (H4.o.2.2.2.2.1 i hl));have b2':Below w.heap.size w w12:=zl b1 H12.o.2.1 (qXv _) (fun _ h=>h.elim);have b3:Below w.heap.size w wE:=zl b2' HX2.o.2.2.2 (qXv _) (fun i e=>by have:=b1.size;have:=H12.o.2.2.2.2;omega);have b4:Below w.heap.size w wr:=zl b3 hD.upd (qXv _) (fun i hi=>Nat.le_of_not_lt fun hl=>hi.1 (hlo9 i hl));have HF:=qqh b4;clear hT hD hg gA b1 b2' b3 b4 hlo9 hkb hk;rcases kt2 with rfl|⟨rfl,rfl⟩
      all_goals
       go_wp2_with fail
       refine HA.o.mono ?_;rintro e wz ⟨rfl,hbz⟩;have HZ:=qqh (HF.o.trans (hbz.mono HF.o.size));clear hbz;go_wp2_with fail
       go_ret
       exact⟨rfl,HZ.o⟩
end Go.Proofs.YtfhfbpmlnjdfoaaGreatDoor.attachTwice
