/- Devices behind -/
import Derived.Test.YtfhfbpmlnjdfoaaGreatDoorG35
set_option maxRecDepth 100000
set_option maxHeartbeats 4000000
namespace Go.Proofs.YtfhfbpmlnjdfoaaGreatDoor
open Go Go.RowKit Tryz
def ES(w:World)(n:CaN)(e:Ending)(w':World):Prop:=
 ∃c pp own' p a Z,e=.returned (.tuple #[ptr c,ptr p.ssd,ptr p.back,ptr pp])/\CaAt own' w' c n p a/\a.Hi n Z/\Z 0=n.sec/\(∀s,n.jb+n.jo<=s->s<n.ku->Z s=zB)/\a.Gd n 2403/\Below w.heap.size w w'/\∀i,i<w.heap.size->own' i=0
theorem SQ{b s j:Int}{l:List Op15}{v:Value}{w:World}(hv:Rd w 4 v l.length (vQ l))(nib:Nib w)(tur:Tur w)(hnn:∀(k:Nat) (h:k<l.length),0<=l[k].nn/\l[k].nn<=255)(hb:1<=b/\b<=12)(hs:1<=s/\s<=8)(hj:4<=j/\j<=12)(hl60:l.length<=60):
  Calls prog 41 #[Yi b s j,v] w (ES w (smN b.toNat s.toNat j.toNat)):=by
 obtain⟨A,hA⟩:=qqe (w.heap.size);obtain⟨w2,hw2⟩:=qqe (w.alloc (.cells #[.int .i64 b,.int .i64 s,.int .i64 j] 75));have hb1:Below w.heap.size w w2:=by rw[hw2];exact(qxl _ w).alloc (qXv _) _
 have e0:w2.heap[A]?=some (.cells #[.int .i64 b,.int .i64 s,.int .i64 j] 75 (0,0)):=by rw[hw2,hA];exact zc w _ rfl
 have hu2:=qqb hb1;have HN:=Y4 nib tur hv hb1;have H2:=Y4 hb1 e0 (nib.keep hu2 id) (tur.keep hu2 id);have HW:=qqh hw2;have s0:=za e0 0;have s1:=za e0 1;have s2:=za e0 2;simp at s0 s1 s2;have hle:=hv.le;unfold maxLen at hle;obtain⟨ao,cc,rfl⟩:=hv.j7;clear hv nib tur hb1 e0 hu2;obtain⟨b,rfl⟩:=qxs (show 0<=b by omega);obtain⟨s,rfl⟩:=qxs (show 0<=s by omega);obtain⟨j,rfl⟩:=qxs (show 0<=j by omega);have hokN:=Sy b s j oM oM oM oM oM oM;simp only[qxu];have HS:=qqh (Zh b s j oM oM w2);obtain⟨n,hn⟩:=qqe (smN b s j);have hnum:n.bl=b/\n.sl=s/\n.jo=j/\n.pa<=2/\n.Ok/\j<=12/\b<=12/\mayS n.I=true:=by
  rw[hn];exact⟨rfl,rfl,rfl,by show(s-1)/4+1<=2;omega,hokN,oM,oM,CaN.may hokN (by show 7<=_;decide)⟩
 rw[<-hn]at HS⊢;have HB:=Y3 hnum hnn hl60;obtain⟨L,hL⟩:=qqe (n.C);have hL1:∀v∈L,v.oneCell'=true:=by rw[hL];exact n.C_one
 have hL7:L.length=7:=by rw[hL];rfl
 have hsi:(prog.info? 40).map (·.size)=some L.length:=by rw[hL7];exact xf
 rw[<-hL]at HS;have HL:=qqh hL;rw[hw2,hA]at s0 s1 s2;clear hnn hb hs hj hl60 hokN hn hnum hL hw2;go_enter func41,ntmps41
 go_wp2_with fail
 rw[<-HW.o,<-hA];rw[<-HW.o,<-hA]at s0 s1 s2;clear hA;refine HS.o.mono ?_;rintro e w3 ⟨rfl,hb3⟩;have hu3:=qqb hb3;have HM:=qqh (zaU n HB.o.1.2.2.2.2.1 HB.o.1.2.2.2.2.2.2.2 w3 (H2.o.2.2.1.keep hu3 id) (H2.o.2.2.2.keep hu3 id));rw[<-HL.o]at HM;have hB3:Below w.heap.size w w3:=H2.o.1.trans ((Upd.below hu3).mono H2.o.1.size);have s03:=hu3.j4 s0 id;have H3:=Y2 hB3 (hu3.j6 H2.o.2.1);clear hb3 hu3 hB3 HS s0 s1 s2;go_wp2_with fail
 refine HM.o.mono ?_;rintro e w4 ⟨own4,ssd,back,rfl,D4,hb4,ho4⟩;have hu4:=qqb hb4;have HA:=qqh (qa D4 (Ur (O:=[]) HB.o.1.2.2.2.2.1 HB.o.1.2.2.2.2.2.2.2 oz) oz);have gA4:=hu4.j6 H3.o.2;have hB4:Below w.heap.size w w4:=H3.o.1.trans (hb4.mono H3.o.1.size);have H4:=Y5 D4 hB4 gA4 hb4.size ho4;have s04:=hu4.j4 s03 id;clear D4 hb4 ho4 hu4 gA4 hB4 HM s03;go_wp2_with fail
 refine HA.o.mono ?_;rintro e w5 ⟨c,p,own5,li,lc,lf,rfl,h5,hp1,hp2,d5,-⟩;replace h5:CaAt own5 w5 c n p (attS n):=h5;subst hp1;subst hp2;obtain⟨w5',hw5⟩:=qqe (w5.alloc (.cells #[ptr li,ptr lc,ptr lf] 67));have hu5:=qqu hw5;have d5':=d5.trans (h5.ki hu5);have oA:own4 A=0:=H4.o.2.2.2.2 A (zf H3.o.2);have gA5:=zV d5' H4.o.2.2.1 oA;have s05:w5'.cell? ⟨A,0,none⟩=some (.int .i64 (b:Int)):=by rw[za gA5.1];rfl
 have hob5:∀i,i<w3.heap.size->own5 i=0:=fun i hi=>(d5.old i (qXy hi H4.o.2.2.2.1)).trans (H4.o.2.2.2.2 i hi);have hB5:Below w.heap.size w w5':=zk H4.o.2.1 d5'.upd (qXv _) (fun k hk=>Nat.le_of_not_lt fun hlt=>hk.1 (H4.o.2.2.2.2 k (qXy hlt H3.o.1.size)));have h35:w3.heap.size<=w5'.heap.size:=qXx H4.o.2.2.2.1 d5'.upd.size;have HP:=qqh (Sm b (by have:=HB.o.1;omega) w5');have H5:=Y5 (h5.new hu5) gA5 hB5 hob5 h35;rw[hw5]at s05;clear h5 d5 d5' hu5 gA5 hob5 hB5 oA HA s04 h35;go_wp2_with fail
 rw[<-hw5];clear hw5 s05;refine HP.o.mono ?_;rintro e w6 ⟨pp,vo,xs,rfl,hps,hb6⟩;have hu6:=qqb hb6;have hR6:Run14 own5 w6 c n p (attS n) 3 (fun j=>w5'.heap.size<=j) pp 1 vo xs:=⟨H5.o.1.new hu6,EQ n,by rw[HB.o.1.1];exact hps,fun i hi _=>by
  have h1:=H5.o.1.nib.lt;have h2:=H5.o.1.tur.lt;exact⟨H5.o.1.far i hi,oM,oM⟩⟩
 have ho6:∀i,i<w3.heap.size->own5 i=0/\¬w5'.heap.size<=i:=fun i hi=>⟨H5.o.2.2.2.1 i hi,by have:=H5.o.2.2.2.2;omega⟩
 obtain⟨Z,hZ,hZ0,hZ1⟩:=ER n HB.o.1.2.2.2.2.1;have HZ:=Y2 hZ0 hZ1;have H6:=Y4 hR6 hZ (H5.o.2.2.1.trans (hb6.mono H5.o.2.2.1.size)) ho6;clear hps hb6 hu6 hR6 hZ hZ0 hZ1 ho6 HP;go_wp2_with fail
 go_loopg[15] l.length (fun gk s12 wr=>∃k:Nat,k+gk=l.length/\s12=.int .i64 (k:Int)/\∃own' a B' vo' xs',Run14 own' wr c n p a (3+k*40) B' pp (1+2*k) vo' xs'/\Did14 own5 w6 (fun j=>w5'.heap.size<=j) own' wr B'/\a.Hi n Z)
 case atStart=>exact⟨0,oM,rfl,own5,attS n,_,vo,xs,H6.o.1,Did14.refl _ _ _,H6.o.2.1⟩
 case round=>
  obtain⟨k,hk,rfl,own1,a,B1,vo1,xs1,hR,hD,hHi⟩:=hrel;by_cases hlt:k<l.length
  .obtain ⟨bl,off,c',hvv,hbl,hc0,hc1,hc2,hc3⟩:=rR HN.o.2.2.1 hlt;cases hvv;have hnk:=HB.o.2.1 k hlt;obtain⟨od,hod⟩:=qqe (l[k]);rw[<-hod]at hc0 hc1 hc2 hc3 hnk;have q1:(k:Int)<(l.length:Int):=oM;have k0:(0:Int)<=(k:Int):=oM;have hBw:Below w.heap.size w wr:=H6.o.2.2.1.trans (hD.below (fun i hi=>H6.o.2.2.2 i (qXy hi H3.o.1.size)) H6.o.2.2.1.size);have hrow:wr.rangeAt bl (off+k*4) [.int .i64 od.dd,.int .i64 od.bb,.int .i64 od.nn,.int .i64 od.mm]:=fun i u hu=>by
    rcases i with _|_|_|_|i
    .cases hu;exact(hBw.cell (p:=⟨bl,off+k*4,none⟩) hbl).trans hc0
    .cases hu;exact(hBw.cell (p:=⟨bl,off+k*4+1,none⟩) hbl).trans hc1
    .cases hu;exact(hBw.cell (p:=⟨bl,off+k*4+2,none⟩) hbl).trans hc2
    .cases hu;exact(hBw.cell (p:=⟨bl,off+k*4+3,none⟩) hbl).trans hc3
    .cases hu
   have hd0:=(hBw.cell (p:=⟨bl,off+k*4,none⟩) hbl).trans hc0;obtain⟨dd,bb,nn,mm⟩:=od;simp only at hrow hnk hd0;obtain⟨nm,hnm⟩:=qxs hnk.1;subst hnm;have hpa:=HB.o.1.2.2.2.1;have hjo:=HB.o.1.2.2.1;have hj12:=HB.o.1.2.2.2.2.2.1;have hl60:=HB.o.2.2;have hdo:=does14 hR oM oM oM dd bb mm nm oM;have hhi:=hHi.does14 HB.o.1.2.2.2.2.1 hR.gd hR.ca.jg oM dd bb nm mm;have HD:=Y5 hR hD hdo hHi hhi;clear hR hD hdo hBw hbl hc0 hc1 hc2 hc3 hod hnk hpa hjo hj12 hlt hHi hhi;go_wp2_with (first
    |(refine qZg rfl _ _ rfl _ _ rfl _ _ hrow underlying84 rfl Sr ?_)
    |fail)
   refine HD.o.2.2.1.mono ?_;rintro e w7 ⟨cd,ok,rfl,own7,B7,vo7,xs7,hR7,hD7⟩;have H7:=Y2 hR7 (HD.o.2.1.trans hD7);clear hR7 hD7;go_wp2_with fail
   go_roundg (gk-1)
   case measure=>omega
   case rel=>
    have hpa:=HB.o.1.2.2.2.1;have hjo:=HB.o.1.2.2.1;have hj12:=HB.o.1.2.2.2.2.2.1;exact⟨k+1,oM,by go_num,own7,_,B7,vo7,xs7,H7.o.1.mono oM oM,H7.o.2,HD.o.2.2.2.2⟩
  .obtain rfl:k=l.length:=oM;have q1:¬((l.length:Int)<(l.length:Int)):=oM;have HR:=Y3 hR hD hHi;have hl60:=HB.o.2.2;clear hR hD hHi hlt hk;go_wp2_with fail
   obtain⟨hR,hD,hHi⟩:=HR.o;refine qYw (v:=.tuple #[ptr c,ptr p.ssd,ptr p.back,ptr pp]) (by simp[results,results41,go_sem]) rfl ?_;have hlw:=H3.o.1.size;exact⟨c,pp,own1,p,a,Z,rfl,hR.ca,hHi,HZ.o.1,HZ.o.2,hR.gd.mono oM,H6.o.2.2.1.trans (hD.below (fun i hi=>H6.o.2.2.2 i (qXy hi H3.o.1.size)) H6.o.2.2.1.size),fun i hi=>(hD.2.1 _ (qXy hi H6.o.2.2.1.size)).trans (H6.o.2.2.2 i oM).1⟩
theorem XY:okS zB=false:=kR
theorem SR:cdS zB=13:=kR
theorem ET:(smN 9 2 8).Ok:=by constructor<;>simp only[smN,CaN.size]<;>omega
theorem XZ{k s:Nat}(h:s<k):curB (List.replicate k zB) [] s=zB:=by
 show(List.replicate k zB).getD s zB=zB;rw[qyh,qys,if_pos h];rfl
theorem qr(w:World)(nib:Nib w)(tur:Tur w):Calls prog 11 #[] w fun e w'=>e=.returned (.bool true)/\Below w.heap.size w w':=by
 have HS:=qqh (Zh 9 2 8 oM oM w);have HN:=Y2 nib tur;obtain⟨n,hn⟩:=qqe (smN 9 2 8);have hok:n.Ok:=by rw[hn];exact ET
 have hm:mayS n.I=true:=CaN.may hok (by rw[hn];show 7<=_;decide);have hc:(pos ((caS0 n 0 (0+1) (fmtF n (List.replicate n.size zB) []) [] [] (List.replicate n.bl zB) [] []).ckpt n).1.st 0).length=2:=by
  rw[RH rfl rfl rfl,hn]
  kernel_rfl
 rw[<-hn]at HS;obtain⟨U,hU⟩:=qqe (n.C);rw[<-hU]at HS;have hUl:U.length=7:=by rw[hU];rfl
 have hU1:∀v∈U,v.oneCell'=true:=by rw[hU];exact n.C_one
 have hsU:(prog.info? 40).map (·.size)=some U.length:=by rw[hU];exact xf
 have H:=Y4 hok hm hc hU;clear nib tur hok hm hc hU hn;go_enter func11,ntmps11
 go_wp2_with fail
 refine HS.o.mono ?_;rintro e w1 ⟨rfl,hb1⟩;obtain⟨w2,hw2⟩:=qqe (w1.alloc (.cells U.toArray 40));have hu1:=qqb hb1;have hu2:=qqu hw2;have U2:=hu1.trans hu2;have g2:=qqg hw2;have r2:=zh g2;have hdv:=Us n (n.id:Int) H.o.1 w2 (HN.o.1.keep U2 id) (HN.o.2.keep U2 id);rw[show superC n.id n.bl n.sl n.jo n.pa n.lo n.ba=U from H.o.2.2.2.symm]at hdv;have HD:=qqh hdv;obtain⟨sb,hsb⟩:=qqe (w1.heap.size);have H2:=Y4 hw2 U2 g2 hsb;rw[hw2]at r2;clear hb1 hu1 hu2 U2 g2 hw2 hdv HS;go_wp2_with (first
  |(refine zl rfl _ _ _ rfl _ _ U rfl rfl (by rw[hUl];rfl) hsU hU1 ?_)
  |(refine qZg rfl _ _ rfl _ _ rfl _ _ r2 underlying40 rfl hsU ?_)
  |fail)
 rw[<-H2.o.1,<-hsb];refine HD.o.mono ?_;rintro e w3 ⟨own,ssd,back,rfl,D3,hb3,ho3⟩;have g3:=(uuo (S:=fun _=>False) hb3).j6 H2.o.2.2.1;rw[<-hsb]at g3;have o3:own sb=0:=ho3 _ (by rw[hsb];exact zf H2.o.2.2.1);have hz:n.size<=4096/\1<=n.size:=⟨H.o.1.z,by unfold CaN.size;omega⟩
 have hno:=wI D3 n H.o.1 (by rw[qzi];omega) (fun h=>by rw[XZ oM,XY]at h;cases h) 13 (by unfold supR;rw[XZ oM,XY,if_neg oe,SR]) de;have HA:=qqh hno;have H3:=Y5 D3 (H2.o.2.1.trans (uuo hb3)) g3 o3 (fun j (hj:j<w.heap.size)=>ho3 j (qXy hj H2.o.2.1.size));clear D3 hb3 ho3 g3 o3 hz hno r2 HD hsb;go_wp2_with fail
 refine HA.o.mono ?_;rintro e w4 ⟨rfl,own4,D4,d4⟩;obtain⟨w5,hw5⟩:=qqe (w4.alloc (.cells #[.pointer none,.pointer none,.pointer none] 67));have hu5:=qqu hw5;have D5:=D4.new hu5;have d5:=d4.trans (D4.ki hu5);have g5:=d5.zero H3.o.2.2.1 H3.o.2.2.2.1;have r5:=zh g5.1;have hf:=VK D5.kT (fun j hj=> .inr hj) D5.back D5.nib D5.on2 n H.o.1 H.o.2.1 oz oz (qYf _);rw[<-H.o.2.2.2]at hf;have HF:=qqh hf;have H5:=Y4 hw5 D5 d5 g5;rw[hw5]at r5;clear D4 d4 hu5 D5 d5 g5 hf hw5 HA;go_wp2_with (first
  |(refine qZg rfl _ _ rfl _ _ rfl _ _ r5 underlying40 rfl hsU ?_)
  |fail)
 rw[<-H5.o.1];refine HF.o.mono ?_;rintro e w6 ⟨rfl,hd6,hu6⟩;have D6:=H5.o.2.1.kP hu6 hd6;have d6:=H5.o.2.2.1.trans (H5.o.2.1.did2 hu6);obtain⟨own6,hown6⟩:=qqe (grow own4 2 w5.heap.size w6.heap.size);rw[<-hown6]at D6 d6;have HA:=qqh (qa D6 (Ur (O:=[]) H.o.1 H.o.2.1 oz) oz);have H6:=Y2 D6 d6;clear hd6 hu6 D6 d6 hown6 HF r5;go_wp2_with fail
 refine HA.o.mono ?_;rintro e w7 ⟨c,p,own7,li,lc,lf,rfl,hca,hp1,hp2,d7,-⟩;obtain⟨w8,hw8⟩:=qqe (w7.alloc (.cells #[ptr li,ptr lc,ptr lf] 67));have hu8:=qqu hw8;have hca8:=hca.new hu8;have hct:=TH hca8 0;rw[H.o.2.2.1]at hct;have HC:=qqh hct;have H8:=Y2 hw8 ((H6.o.2.trans d7).trans (hca.ki hu8));clear hca hp1 hp2 d7 hu8 hca8 hct HA hw8;go_wp2_with fail
 try rw[<-H8.o.1]
 refine HC.o.mono ?_;rintro e w9 ⟨rfl,own9,h9,d9⟩;have HE:=qqh (H8.o.2.trans d9);clear h9 d9 HC;go_wp2
 go_ret
 refine⟨rfl,?_⟩;have hb:=Upd.below H3.o.2.1;exact zk hb HE.o.upd (qXv _) (fun k hk=>Nat.le_of_not_lt fun hlt=>hk.1 (H3.o.2.2.2.2 k hlt))
end Go.Proofs.YtfhfbpmlnjdfoaaGreatDoor
