/- What is no cac -/
import Derived.Test.YtfhfbpmlnjdfoaaGreatDoorG36
set_option maxRecDepth 100000
set_option maxHeartbeats 4000000
namespace Go.Proofs.YtfhfbpmlnjdfoaaGreatDoor.attachRefuses
open Go Go.RowKit Go.ChangeShapes Go.WideShapes Go.ChangeAt Go.Proofs.YtfhfbpmlnjdfoaaGreatDoor Tryz
theorem zbs(b s j:Int)(l:List Op15)(v:Value)(q:Int)(w:World)(hv:Rd w 4 v l.length (vQ l))(hq64: -9223372036854775808<=q/\q<9223372036854775808)(nib:Nib w)(tur:Tur w):
  Calls prog 8 #[Yi b s j,v,.int .i64 q] w fun e w'=>e=.returned (.bool true)/\Below w.heap.size w w':=by
 obtain⟨A,hA⟩:=qqe (w.heap.size);obtain⟨w1,hw1⟩:=qqe (w.alloc (.cells #[.int .i64 b,.int .i64 s,.int .i64 j] 75));have hb1:Below w.heap.size w w1:=by rw[hw1];exact(qxl _ w).alloc (qXv _) _
 have z1:w1.heap.size=A+1:=by rw[hw1,hA];simp
 have e0:w1.heap[A]?=some (.cells #[.int .i64 b,.int .i64 s,.int .i64 j] 75 (0,0)):=by rw[hw1,hA];exact zc w _ rfl
 have HF:=qqh (zcH b s j v l w1 (hv.below hb1));have HN:=Y4 nib tur hv hb1;have HE:=Y3 e0 z1 hA;have HW:=qqh hw1;have r0:=zh e0;have hut:=underlying75;have hsi:=zcI;obtain⟨ao,cc,rfl⟩:=hv.j7;clear hv nib tur hb1 z1 e0 hw1;go_enter func8,ntmps8
 go_upto_region 1 with fail
 rw[<-HW.o,<-hA];clear hA;go_wp2_with (first
  |(refine yo oD _ _ rfl _ _ rfl _ _ r0 hut rfl hsi ?_)
  |fail)
 refine HF.o.mono ?_;rintro e w2 ⟨qf,rfl,hq,hb2⟩;have hu2:=qqb hb2;have g0:=hu2.j6 HE.o.1;have hB2:Below w.heap.size w w2:=HN.o.2.2.2.trans (hb2.mono HN.o.2.2.2.size);have H2:=Y5 hB2 g0 (HN.o.1.below hB2) (HN.o.2.1.below hB2) (HN.o.2.2.1.below hB2);have HQ:=qqh hq;have r0:=zh g0;clear hb2 hu2 hB2 hq HF g0;have HA:=qqh (qr w2 H2.o.2.2.1 H2.o.2.2.2.1);cases qf with
 |false=>
  clear r0;go_wp2_with fail
  refine HA.o.mono ?_;rintro e w3 ⟨rfl,hb3⟩;have H3:=qqh (H2.o.1.trans (hb3.mono H2.o.1.size));clear hb3;go_wp2
  go_ret
  exact⟨rfl,H3.o⟩
 |true=>
  by_cases hq0:q<0
  .clear r0;go_wp2_with fail
   refine HA.o.mono ?_;rintro e w3 ⟨rfl,hb3⟩;have H3:=qqh (H2.o.1.trans (hb3.mono H2.o.1.size));clear hb3;go_wp2
   go_ret
   exact⟨rfl,H3.o⟩
  obtain⟨hnn,hb,hs,hj,hl60⟩:=HQ.o.1 (by first|rfl|trivial);have HP:=qqh (SQ H2.o.2.2.2.2 H2.o.2.2.1 H2.o.2.2.2.1 hnn hb hs hj hl60);obtain⟨b,rfl⟩:=qxs (show 0<=b by omega);obtain⟨s,rfl⟩:=qxs (show 0<=s by omega);obtain⟨j,rfl⟩:=qxs (show 0<=j by omega);obtain⟨k,rfl⟩:=qxs (show 0<=q by omega);simp only[qxu]at HP;have hokN:=Sy b s j oM oM oM oM oM oM;obtain⟨n,hn⟩:=qqe (smN b s j);have hnum:n.bl=b/\n.sl=s/\n.jo=j/\n.Ok/\j<=12/\b<=12/\mayS n.I=true:=by
   rw[hn];exact⟨rfl,rfl,rfl,hokN,oM,oM,CaN.may hokN (by show 7<=_;decide)⟩
  rw[<-hn]at HP;have HB:=qqh hnum;clear hnn hb hs hj hl60 hokN hn hnum HQ HA;go_wp2_with (first
   |(refine yo oD _ _ rfl _ _ rfl _ _ r0 hut rfl hsi ?_)
   |fail)
  refine HP.o.mono ?_;rintro e w3 ⟨c0,pp,own3,p0,a0,Z,rfl,h3,hHi,hZ0,hZ1,hgd,hb3,ho3⟩;have gA3:=(uuo (S:=fun _=>False) hb3).j6 H2.o.2.1;have hB3:=H2.o.1.trans (hb3.mono H2.o.1.size);have oA3:own3 A=0:=ho3 _ (zf H2.o.2.1);have hlo3:∀i,i<w.heap.size->own3 i=0:=fun i hi=>ho3 i (qXy hi H2.o.1.size);have HFl:=qqh (uC h3);have hHs:∃(a1:CaS) (E:Nat->List Ent) (R:Nat->List Int) (f0 com fp:Nat),a1=a0.dev (flushR a0.dF a0.dO a0.dP)/\a1.next<1099511627776/\Hs n Z a1 E R f0 com fp:=by
   obtain⟨E,R,f0,com,fp,hH⟩:=hHi;have hnx:=hgd.fit.nx;rcases hH.flush (by have:=HB.o.2.2.2.1.j1;omega)with⟨-,h⟩|⟨-,h,-⟩
   .exact ⟨_,E,R,f0,com,_,rfl,by show a0.next<_;omega,h⟩
   .exact ⟨_,E,R,f0,com,_,rfl,by show a0.next<_;omega,h⟩
  have H3:=Y7 hHs hZ0 hZ1 hB3 gA3 oA3 hlo3;clear h3 hHi hZ0 hZ1 hgd hb3 ho3 gA3 HP r0 hB3 oA3 hlo3 hHs;go_wp2_with fail
  refine HFl.out.mono ?_;rintro e w4 ⟨rfl,own4,h4,d4⟩;obtain⟨⟨a1,E,R,f0,com,fp,ha1,hnx,hH⟩,hZ0,hZ1,hB3,gA3,oA3,hlo3⟩:=H3.o;replace h4:CaAt own4 w4 c0 n p0 a1:=by rw[ha1];exact h4
  have hB4:=d4.below hB3 hlo3;have gA4:=d4.zero gA3 oA3;have HC:=qqh (XQ h4.ssd h4.back);have H4:=Y6 h4.nib h4.tur hB4 gA4.1 h4.fl h4.gl;have HH:=Y4 hH hZ0 hZ1 hnx;clear h4 d4 hB4 gA4 hH hZ0 hZ1 hB3 gA3 oA3 hlo3 ha1 hnx HFl H3;go_wp2_with fail
  refine HC.o.mono ?_;rintro e w5 ⟨x,y,m,rfl,hm,hm5,hx,hy,hb5⟩;obtain⟨own5,hown5⟩:∃own5:Nat->Nat,own5=fun j=>if w4.heap.size<=j/\j<m then 2 else if m<=j/\j<w5.heap.size then 3 else 0:=⟨_,rfl⟩
  have o0:∀j,j<w4.heap.size->own5 j=0:=fun j hj=>by rw[hown5];show(if _ then _ else _)=_;rw[if_neg oM,if_neg oM]
  have D5:Dvs own5 w5 x y a1.dF [] a1.bF [] []:=by
   have hn:=H4.o.1;have ht:=H4.o.2.1;refine⟨hx.out fun j hj h=>?_,hy.out fun j hj h=>?_,fun j hj=>?_,hn.below hb5,ht.below hb5,o0 _ hn.lt,o0 _ ht.lt⟩
   .rw [hown5];exact if_pos h
   .rw [hown5];show(if _ then _ else _)=_;rw[if_neg oM,if_pos ⟨h,hj⟩]
   .rw [hown5];show(if _ then _ else _)=_;rw[if_neg oM,if_neg oM]
  have gA5:=(uuo (S:=fun _=>False) hb5).j6 H4.o.2.2.2.1;have hB5:=H4.o.2.2.1.trans (hb5.mono H4.o.2.2.1.size);have oA5:own5 A=0:=o0 _ (zf H4.o.2.2.2.1);have hlo5:∀i,i<w.heap.size->own5 i=0:=fun i hi=>o0 i (qXy hi H4.o.2.2.1.size);obtain⟨F,hF⟩:=qqe (a1.dF);obtain⟨G,hG⟩:=qqe (a1.bF);have hFl:F.length=n.size:=by rw[hF];exact H4.o.2.2.2.2.1
  have hGl:G.length=n.bl:=by rw[hG];exact H4.o.2.2.2.2.2
  have hok:=HB.o.2.2.2.1;have hz4:=hok.z;have hz1:1<=n.size:=by unfold CaN.size;omega
  obtain⟨z,hz⟩:=qqe (n.size);obtain⟨i,hi⟩:=qqe (k%z);have hiz:i<z:=by rw[hi];exact qYa _ oM
  have hbad:=HH.o.1.bad hok HB.o.2.2.2.2.2.2 HH.o.2.2.2 HH.o.2.1 HH.o.2.2.1 (i:=i) oM;rw[<-hF]at D5 hbad;rw[<-hG]at D5;rw[<-hz]at hFl hz4 hz1;have hrem:Int.tmod (k:Int) (z:Int)=(i:Int):=by
   rw[Int.tmod_eq_emod_of_nonneg oM,hi];rfl
  have zn:((z:Int)==0)=false:=by simp;omega
  have hz0:¬((z:Int)=0):=oM;have hwi:IntKind.i64.wrap (i:Int)=(i:Int):=qxv _ oM;obtain⟨Y,hY⟩:=qqe (zB);have HY:=Y2 hY (wk Y hY);have ca:(w5.alloc (.cells (bkC Y).toArray 54)).cell? ⟨w5.heap.size,0,none⟩=some (.int .u8 0):=by rw[za (zc w5 _ rfl) 0,hY];rfl
  have fa:(w5.alloc (.cells (bkC Y).toArray 54)).frozen? ⟨w5.heap.size,0,none⟩=false:=zg (zc w5 _ rfl) 0;obtain⟨w6,hw6⟩:=qqe (w5.alloc (.cells ((bkC Y).set 0 (.int .u8 99)).toArray 54));have g6:w6.heap[w5.heap.size]?=some (.cells (bkC bdB).toArray 54 (0,0)):=by
   rw[hw6];refine(zc w5 _ rfl).trans ?_;rw[hY];rfl
  have hu5:=qqu hw6;have D6:Dvs own5 w6 x y F [] G [] []:=D5.new hu5;have gA6:=hu5.j6 gA5;have hB6:Below w.heap.size w w6:=zk hB5 hu5 (qXv _) (fun _ h=>h.elim);have r6:=zh g6;have H6:=Y6 D6 gA6 oA5 hB6 hlo5 (zf g6);have HZ:=Y7 hFl hGl hz hi hiz hbad hok;have HW6:=Y3 hw6 hw6 (D5.far _ (qXv _):own5 w5.heap.size=0);have hsb:=zw bdB rfl;have hsz:=wJ D6.ssd;rw[hFl]at hsz;clear hx hy hm hm5 hb5 hown5 o0 D5 gA5 hB5 oA5 hlo5 hF hG hFl hGl hok hi hbad hY g6 hu5 D6 gA6 hB6 hw6 hz HC H4;go_wp2_with (first
   |(refine zY rfl _ rfl _ HY.o.2 ?_)
   |fail)
  rw[<-HW6.o.1];clear ca fa;refine qZj (S:=fun W=>W.rangeAt w5.heap.size 0 (bkC bdB)) kR (by rw[qYq];exact r6) (fun hHeld=>?_);refine Wl.i [0,1,2] ?_;iterate 3 refine Wl.t hHeld ?_
  refine Wl.o ?_;refine Wl.l 5 (fun w h=>h) underlying54 hsb hHeld ?_;refine Wl.r 3 (fun K hK=>?_);go_simp
  have hud:Upd (fun _=>False) w6 w6.drew:=(uur _ w6).drew;have D6d:=H6.o.1.new hud;have hszd:=wJ D6d.ssd;rw[HZ.o.1]at hszd;refine hszd.mono ?_;rintro e w7 ⟨rfl,hw7⟩;rw[hw7];refine hK.o _ _ hHeld (fun _=>?_);clear hK K hw7 hszd;refine qZf (i:=4) (v:=.int .i64 (i:Int)) rfl kR kR kR (fun _ _ _ h=>h) (Or.inl ⟨by rfl,?_⟩) hHeld ?_
  .intro W hSw;go_simp
   omega
  simp only[qzc,qyw,qyx,Act.put,qXi,qXl,qXk];refine Wl.r 6 (fun K hK=>?_);go_simp
  refine(wi D6d.kT (fun j hj=> .inr hj) i (by rw[HZ.o.1];exact hiz) bdB rfl (by show 0<_;decide)).mono ?_;rintro e w7 ⟨rfl,hd7,hu7⟩;have D7:=D6d.kP hu7 hd7;have d7:=(H6.o.1.ki hud).trans (D6d.did2 hu7);have gA7:=d7.zero H6.o.2.1 H6.o.2.2.1;have hHeld2:w7.rangeAt w5.heap.size 0 (bkC bdB):=hu7.range (by rw[qYq];exact r6) (fun hs=>by
   rcases hs with hs|hs
   .rw [HW6.o.2.2]at hs;cases hs
   .have:=H6.o.2.2.2.2.2;have:=hud.size;omega)
  have H7:=Y4 D7 gA7 (d7.below H6.o.2.2.2.1 H6.o.2.2.2.2.1) (fun i hi=>(d7.old i (qXy hi H6.o.2.2.2.1.size)).trans (H6.o.2.2.2.2.1 i hi));refine hK.o _ _ hHeld2 (fun _=>?_);clear hK K hud D6d hd7 hu7 D7 d7 gA7 hHeld hHeld2 r6;refine Wl.d ?_;go_wp2_with fail
  refine(xo H7.o.1.kT (fun j hj=> .inr hj)).mono ?_;rintro e w8 ⟨rfl,hd8,hu8⟩;have D8:=H7.o.1.kP hu8 hd8;have d8:=H7.o.1.did2 hu8;obtain⟨own8,hown8⟩:=qqe (grow (grow own5 2 w6.drew.heap.size w7.heap.size) 2 w7.heap.size w8.heap.size);rw[<-hown8]at D8 d8;obtain⟨F',hF'⟩:=qqe (F.set i bdB);replace D8:Dvs own8 w8 x y F' [] G [] []:=by rw[hF'];exact D8
  have gA8:=d8.zero H7.o.2.1.1 H7.o.2.1.2;have hF'l:F'.length=z:=by rw[hF',qzj];exact HZ.o.1
  have hbad:=HZ.o.2.2.2.2.2.1;rw[<-hF']at hbad;have H8:=Y6 D8 gA8 (d8.below H7.o.2.2.1 H7.o.2.2.2) (fun i hi=>(d8.old i (qXy hi H7.o.2.2.1.size)).trans (H7.o.2.2.2 i hi):∀i,i<w.heap.size->own8 i=0) hF'l hbad;have HC:=qqh (Ag D8.ssd);clear hd8 hu8 D8 d8 hown8 hF' gA8 hF'l hbad;go_wp2_with fail
  refine HC.o.mono ?_;rintro e w9 ⟨u,rfl,hu9,hb9⟩;have D9:=H8.o.1.new (uuo (S:=fun _=>False) hb9);have HC2:=qqh (Ag D9.back);have H9:=Y3 hu9 hb9 D9;clear hu9 hb9 D9 HC;go_wp2_with fail
  refine HC2.o.mono ?_;rintro e w10 ⟨v,rfl,hv10,hb10⟩;have D10:=H9.o.2.2.new (uuo (S:=fun _=>False) hb10);have hz:=HZ.o.2.2.1;have HAt:=qqh (EP D10 HZ.o.2.2.2.2.2.2 (H8.o.2.2.2.2.1.trans hz) HZ.o.2.1 H8.o.2.2.2.2.2.1 H8.o.2.2.2.2.2.2);have hs89:=H9.o.2.1.size;have hs910:=hb10.size;have hu10:Dv (fun j=>w8.heap.size<=j/\j<w9.heap.size) w10 u F' [] []:=(H9.o.1.out fun j hj h=>⟨h,hj⟩).new (uuo hb10);have hv10':Dv (fun j=>w9.heap.size<=j/\j<w10.heap.size) w10 v G [] []:=hv10.out fun j hj h=>⟨h,hj⟩;have hB10:=(H8.o.2.2.1.trans (H9.o.2.1.mono H8.o.2.2.1.size)).trans (hb10.mono (qXx H8.o.2.2.1.size hs89));have gA10:=(uuo (S:=fun _=>False) hb10).j6 ((uuo (S:=fun _=>False) H9.o.2.1).j6 H8.o.2.1.1);have H10:=Y7 D10 hu10 hv10' hB10 gA10 hs89 hs910;clear D10 hz hs89 hs910 hu10 hv10 hv10' hb10 hB10 gA10 HC2;go_wp2_with fail
  refine HAt.out.mono ?_;rintro e w11 ⟨pd,l1,l2,l3,cd,own11,rfl,d11,hy11,nib11,tur11,hor,h13⟩;obtain⟨w12,hw12⟩:=qqe (w11.alloc (.cells #[.pointer l1,.pointer l2,.pointer l3] 67));have hu12:=qqu hw12;have gA12:=hu12.j6 (d11.zero H10.o.2.2.2.2.1 (by exact H8.o.2.1.2)).1;have kA:=za gA12 0;simp at kA;have hB11:Below w.heap.size w w11:=d11.below H10.o.2.2.2.1 H8.o.2.2.2.1;have hB12:Below w.heap.size w w12:=zk hB11 hu12 (qXv _) (fun _ h=>h.elim);have hb12:=HB.o.2.2.2.2.2.1;have HN:=qqh (Zp (b+1) oM oM w12);have hw1:IntKind.i64.wrap ((b:Int)+1)=((b+1:Nat):Int):=(qxv _ oM).trans oe;have far8:=H8.o.1.far;have hkeepX:∀{k:Nat} {q:Nat} {M:List Bk} {O:List (Nat×Bk)},Dv (fun j=>own11 j=k) w11 q M O []->Dv (fun j=>own11 j=k) w12 q M O []:=fun h=>h.new hu12;have hu11:Dv (fun j=>w8.heap.size<=j/\j<w9.heap.size) w12 u F' [] []:=(H10.o.2.1.keep d11.upd (fun j h hs=>hs.1 (far8 j h.1))).new hu12;have hv11:Dv (fun j=>w9.heap.size<=j/\j<w10.heap.size) w12 v G [] []:=(H10.o.2.2.1.keep d11.upd (fun j h hs=>hs.1 (far8 j (qXx H10.o.2.2.2.2.2.1 h.1)))).new hu12;have hz0:∀j,w8.heap.size<=j->j<w10.heap.size->own11 j=0:=fun j h1 h2=>(d11.old j h2).trans (far8 j h1);have hs1:=d11.upd.size;have hs2:=hu12.size;have H12:=Y10 hB12 hu11 hv11 (hy11.new hu12) (nib11.keep hu12 id) (tur11.keep hu12 id) hz0 d11.far hs1 hs2;have hor2:cd≠0/\pd=none/\Dv (fun j=>own11 j=2) w12 x F' [] []\/cd=0/\(∃c,pd=some ⟨c,0,none⟩)/\i≠0/\∃F2 O2,F2.length=z/\Dv (fun j=>own11 j=2) w12 x F2 O2 []:=by
   rcases hor with⟨h1,h2,h3⟩|⟨h1,h2,h3,F2,O2,h4,h5⟩
   .exact .inl ⟨h1,h2,h3.new hu12⟩
   .exact .inr ⟨h1,h2,h3,F2,O2,h4.trans H8.o.2.2.2.2.1,h5.new hu12⟩
  have HO:=Y2 hor2 h13;have HW12:=qqh hw12;clear d11 hy11 nib11 tur11 hor h13 hu12 gA12 hB11 hB12 far8 hkeepX hu11 hv11 hz0 hs1 hs2 hor2 HAt;rw[hw12]at kA;clear hw12;go_wp2_with fail
  rw[<-HW12.o];clear kA;refine HN.o.mono ?_;rintro e w13 ⟨sm,rfl,hsm,hsm2,hb13⟩;obtain⟨own13,hown13⟩:∃own13:Nat->Nat,own13=fun j=>if w8.heap.size<=j/\j<w9.heap.size then 2 else if w12.heap.size<=j/\j<w13.heap.size then 3 else 0:=⟨_,rfl⟩
  obtain⟨hB12,hu11,hv11,hy12,nib12,tur12,hz0,hfar,hs1,hs2⟩:=H12.o;have hsx:=H10.o.2.2.2.2.2.1;have hsy:=H10.o.2.2.2.2.2.2;have hbw:=hB12.size;have hs13:=hb13.size;have hw8:=H8.o.2.2.1.size;have o13:∀j,¬(w8.heap.size<=j/\j<w9.heap.size)->¬(w12.heap.size<=j/\j<w13.heap.size)->own13 j=0:=fun j h1 h2=>by rw[hown13];show(if _ then _ else _)=_;rw[if_neg h1,if_neg h2]
  have n8:=H8.o.1.nib.lt;have t8:=H8.o.1.tur.lt;have D13:Dvs own13 w13 u sm F' [] (List.replicate (b+1) zB) [] []:=by
   refine⟨(hu11.new (uuo hb13)).out fun j hj h=>?_,hsm.out fun j hj h=>?_,fun j hj=>o13 j oM oM,nib12.below hb13,tur12.below hb13,o13 _ oM oM,o13 _ oM oM⟩
   .rw [hown13];exact if_pos h
   .rw [hown13];show(if _ then _ else _)=_;rw[if_neg oM,if_pos ⟨h,hj⟩]
  have hz:=HZ.o.2.2.1;have hnb:b+1≠n.bl:=by have:=HB.o.1;omega
  have HAt:=qqh (TX D13 HZ.o.2.2.2.2.2.2 (H8.o.2.2.2.2.1.trans hz) hnb H8.o.2.2.2.2.2.1 H8.o.2.2.2.2.2.2);have hlo13:∀i,i<w.heap.size->own13 i=0:=fun i hi=>o13 i oM oM;have hB13:=hB12.trans (hb13.mono hbw);have H13:=Y5 hB13 hlo13 o13 hb13 D13.far;clear hown13 hB12 hu11 hv11 hy12 nib12 tur12 hz0 hfar hs1 hs2 hsx hsy hbw hs13 hw8 o13 n8 t8 D13 hz hnb hlo13 hB13 hsm hsm2 hb13 HN;go_wp2_with fail
  refine HAt.out.mono ?_;rintro e w14 ⟨rfl,own14,D14,d14⟩;obtain⟨w15,hw15⟩:=qqe (w14.alloc (.cells #[.pointer none,.pointer none,.pointer none] 67));have hu15:=qqu hw15;have hKeep:∀{S:Nat->Prop} {q:Nat} {M:List Bk} {O:List (Nat×Bk)},(∀j,S j->¬(w8.heap.size<=j/\j<w9.heap.size)/\¬w12.heap.size<=j)->Dv S w12 q M O []->Dv S w15 q M O []:=fun hS h=>
   ((h.new (uuo H13.o.2.2.2.1)).keep d14.upd (fun j hj hs=>hs.1 (H13.o.2.2.1 j (hS j hj).1 (fun hc=>(hS j hj).2 hc.1)))).new hu15
  have hS23:∀k,k≠0->∀j,own11 j=k->¬(w8.heap.size<=j/\j<w9.heap.size)/\¬w12.heap.size<=j:=fun k hk j hj=>by
   obtain⟨-,-,-,-,-,-,hz0,hfar,hs1,hs2⟩:=H12.o;have hsx:=H10.o.2.2.2.2.2.2;refine⟨fun hc=>hk (hj.symm.trans (hz0 j hc.1 oM)),fun hc=>hk (hj.symm.trans (hfar j oM))⟩
  have hy15:=hKeep (hS23 3 de) H12.o.2.2.2.1;have hv15:=hKeep (fun j hj=>⟨oM,by have:=H12.o.2.2.2.2.2.2.2.2.1;have:=H12.o.2.2.2.2.2.2.2.2.2;omega⟩) H12.o.2.2.1;have hu15':=D14.ssd.new hu15;have hB15:Below w.heap.size w w15:=zk (d14.below H13.o.1 H13.o.2.1) hu15 (qXv _) (fun _ h=>h.elim);have H15:=Y6 hB15 hy15 hv15 hu15' (D14.nib.keep hu15 id) (D14.tur.keep hu15 id);obtain⟨hor,h13⟩:=HO.o;have hor15:cd≠0/\pd=none/\Dv (fun j=>own11 j=2) w15 x F' [] []\/cd=0/\(∃c,pd=some ⟨c,0,none⟩)/\i≠0/\∃F2 O2,F2.length=z/\Dv (fun j=>own11 j=2) w15 x F2 O2 []:=by
   rcases hor with⟨h1,h2,h3⟩|⟨h1,h2,h3,F2,O2,h4,h5⟩
   .exact .inl ⟨h1,h2,hKeep (hS23 2 de) h3⟩
   .exact .inr ⟨h1,h2,h3,F2,O2,h4,hKeep (hS23 2 de) h5⟩
  have hSz:∀W,Below w15.heap.size w15 W->Calls prog 47 #[ptr x] W fun e w'=>e=.returned (.int .i64 (z:Int))/\w'=W:=fun W hW=>by
   rcases hor15 with⟨-,-,h3⟩|⟨-,-,-,F2,O2,h4,h5⟩
   .have:=wJ (h3.below hW);rw[H8.o.2.2.2.2.1]at this;exact this
   .have:=wJ (h5.below hW);rw[h4]at this;exact this
  have HSz:=qqh hSz;have HW15:=qqh hw15;clear D14 d14 hu15 hKeep hS23 hy15 hv15 hu15' hB15 hSz hor HAt hw15;rcases hor15 with⟨hcd,rfl,hx15⟩|⟨rfl,⟨c,rfl⟩,hi0,-⟩
  .have q0:(cd==0)=false:=by simpa using hcd
   have q0':(cd !=0)=true:=by simpa using hcd
   have HX:=qqh hx15;clear hx15;have hc:(∃t,t=decide (i=0)):=⟨_,rfl⟩
   obtain⟨t,ht⟩:=hc;have i0:((i:Int)==0)=t:=by rw[ht];by_cases h:i=0<;>simp[h]
   have i1:((i:Int) !=0)=!t:=by rw[bne,i0]
   have i2:(if i=0 then(13:Int)else 22)=if t then 13 else 22:=by rw[ht];by_cases h:i=0<;>simp[h]
   rw[i2];have i3:t=true->cd=13:=fun h=>h13 (by rw[h]at ht;exact of_decide_eq_true ht.symm);clear h13 i2 ht;cases t with
   |true=>
    obtain rfl:=i3 rfl;clear i3;go_wp2_with fail
    rw[<-HW15.o];refine(HSz.out _ (qxl _ _)).mono ?_;rintro e W1 ⟨rfl,hW1⟩;rw[hW1];clear hW1;go_wp2_with fail
    refine(HSz.out _ (qxl _ _)).mono ?_;rintro e W2 ⟨rfl,hW2⟩;rw[hW2];clear hW2;go_wp2_with fail
    refine(XR HX.o H15.o.2.2.2.1).mono ?_;rintro e wA ⟨rfl,hbA⟩;have HA1:=qqh hbA;clear hbA;go_wp2_with fail
    refine(XR (H15.o.2.1.below HA1.o) (H15.o.2.2.1.below HA1.o)).mono ?_;rintro e wB ⟨rfl,hbB⟩;have HA2:=qqh (HA1.o.trans (hbB.mono HA1.o.size));clear hbB;have HAw:=qqh (qr wB (H15.o.2.2.2.2.1.below HA2.o) (H15.o.2.2.2.2.2.below HA2.o));go_wp2_with fail
    refine HAw.out.mono ?_;rintro e wC ⟨rfl,hbC⟩;have HZZ:=qqh (H15.o.1.trans ((HA2.o.trans (hbC.mono HA2.o.size)).mono H15.o.1.size));clear hbC;go_wp2_with fail
    go_ret
    exact⟨rfl,HZZ.o⟩
   |false=>
    clear i3;go_wp2_with fail
    rw[<-HW15.o];refine(HSz.out _ (qxl _ _)).mono ?_;rintro e W1 ⟨rfl,hW1⟩;rw[hW1];clear hW1;go_wp2_with fail
    refine(HSz.out _ (qxl _ _)).mono ?_;rintro e W2 ⟨rfl,hW2⟩;rw[hW2];clear hW2;go_wp2_with fail
    refine(XR HX.o H15.o.2.2.2.1).mono ?_;rintro e wA ⟨rfl,hbA⟩;have HA1:=qqh hbA;clear hbA;go_wp2_with fail
    refine(XR (H15.o.2.1.below HA1.o) (H15.o.2.2.1.below HA1.o)).mono ?_;rintro e wB ⟨rfl,hbB⟩;have HA2:=qqh (HA1.o.trans (hbB.mono HA1.o.size));clear hbB;have HAw:=qqh (qr wB (H15.o.2.2.2.2.1.below HA2.o) (H15.o.2.2.2.2.2.below HA2.o));go_wp2_with fail
    refine HAw.out.mono ?_;rintro e wC ⟨rfl,hbC⟩;have HZZ:=qqh (H15.o.1.trans ((HA2.o.trans (hbC.mono HA2.o.size)).mono H15.o.1.size));clear hbC;go_wp2_with fail
    go_ret
    exact⟨rfl,HZZ.o⟩
  .have i0:((i:Int)==0)=false:=by simp[hi0]
   have i1:((i:Int) !=0)=true:=by simp[hi0]
   rw[if_neg hi0];clear h13;have HA1:=qqh (qxl w15.heap.size w15);go_wp2_with fail
   rw[<-HW15.o];refine(HSz.out _ (qxl _ _)).mono ?_;rintro e W1 ⟨rfl,hW1⟩;rw[hW1];clear hW1;go_wp2_with fail
   refine(HSz.out _ (qxl _ _)).mono ?_;rintro e W2 ⟨rfl,hW2⟩;rw[hW2];clear hW2;go_wp2_with fail
   refine(XR (H15.o.2.1.below HA1.o) (H15.o.2.2.1.below HA1.o)).mono ?_;rintro e wB ⟨rfl,hbB⟩;have HA2:=qqh (HA1.o.trans (hbB.mono HA1.o.size));clear hbB;have HAw:=qqh (qr wB (H15.o.2.2.2.2.1.below HA2.o) (H15.o.2.2.2.2.2.below HA2.o));go_wp2_with fail
   refine HAw.out.mono ?_;rintro e wC ⟨rfl,hbC⟩;have HZZ:=qqh (H15.o.1.trans ((HA2.o.trans (hbC.mono HA2.o.size)).mono H15.o.1.size));clear hbC;go_wp2_with fail
   go_ret
   exact⟨rfl,HZZ.o⟩
end Go.Proofs.YtfhfbpmlnjdfoaaGreatDoor.attachRefuses
