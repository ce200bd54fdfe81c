/- What Entries tells is what the cache has, of a -/
import Derived.Test.YtfhfbpmlnjdfoaaGreatDoorG50
set_option maxRecDepth 100000
set_option maxHeartbeats 4000000
namespace Go.Proofs.YtfhfbpmlnjdfoaaGreatDoor.attachRecords
open Go Go.RowKit Go.ChangeShapes Go.WideShapes Go.ChangeAt Go.Proofs.YtfhfbpmlnjdfoaaGreatDoor
theorem UC{sl jo pa lo:Nat}(W:World):(Instr.field 43 (.agg (layC sl jo pa lo).toArray) 1).run Tryz.prog W=.ok (.int .i64 ((1+2*pa:Nat):Int)) W:=by
 kernel_rfl
theorem Aj(b s j:Int)(l:List Op15)(v:Value)(w:World)(hv:Rd w 4 v l.length (ug l))(nib:Nib w)(tur:Tur w):
  Calls Tryz.prog 6 #[XL b s j,v] w fun e w'=>e=.returned (.bool true)/\Below w.heap.size w w':=by
 obtain⟨A,hA⟩:=qqe (w.heap.size);obtain⟨w1,hw1⟩:=qqe (w.alloc (.cells #[.int .i64 b,.int .i64 s,.int .i64 j] 75));have hb1:Below w.heap.size w w1:=by rw[hw1];exact(qxl _ w).alloc (qXv _) _
 have z1:w1.heap.size=A+1:=by rw[hw1,hA];simp
 have e0:w1.heap[A]?=some (.cells #[.int .i64 b,.int .i64 s,.int .i64 j] 75 (0,0)):=by rw[hw1,hA];exact zc w _ rfl
 have HF:=qqh (AJ b s j v l w1 (hv.below hb1));have HN:=Y4 nib tur hv hb1;have HE:=Y3 e0 z1 hA;have HW:=qqh hw1;have r0:=zg e0;have s0:=za e0 0;have s1:=za e0 1;have s2:=za e0 2;simp at s0 s1 s2;have hut:=Tryz.underlying75;have hsi:=AK;have hle:=hv.le;unfold maxLen at hle;obtain⟨ao,cc,rfl⟩:=hv.nil_iff;clear hv nib tur hb1 z1 e0 hw1;go_enter Tryz.func6,Tryz.ntmps6
 go_upto_region 1 with fail
 rw[<-HW.o,<-hA];clear hA;go_wp2_with (first
  |(refine yX (by rfl) _ _ rfl _ _ rfl _ _ r0 hut rfl hsi ?_)
  |fail)
 refine HF.o.mono ?_;rintro e w2 ⟨q,rfl,hq,hb2⟩;have hu2:=qqb hb2;replace s0:=hu2.cellv s0 (fun h=>h);replace s1:=hu2.cellv s1 (fun h=>h);replace s2:=hu2.cellv s2 (fun h=>h);have g0:=hu2.blockv HE.o.1;have hB2:Below w.heap.size w w2:=HN.o.2.2.2.trans (hb2.mono HN.o.2.2.2.size);have H2:=Y4 hB2 g0 (HN.o.1.below hB2) (HN.o.2.1.below hB2);have HQ:=qqh hq;clear hb2 hu2 hB2 hq HF g0 r0 hut hsi;cases q with
 |false=>
  have HA:=qqh (Vb w2 H2.o.2.2.1 H2.o.2.2.2);go_wp2_with fail
  refine HA.o.mono ?_;rintro e w3 ⟨rfl,hb3⟩;have H3:=qqh (H2.o.1.trans (hb3.mono H2.o.1.size));clear hb3;go_wp2
  go_ret
  exact⟨rfl,H3.o⟩
 |true=>
  obtain⟨hnn,hb,hs,hj,hl60⟩:=HQ.o.1 (by first|rfl|trivial);obtain⟨b,rfl⟩:=qxs (show 0<=b by omega);obtain⟨s,rfl⟩:=qxs (show 0<=s by omega);obtain⟨j,rfl⟩:=qxs (show 0<=j by omega);have hokN:=Eh b s j (by omega) (by omega) (by omega) (by omega) (by omega) (by omega);have HS:=qqh (rW b s j (by omega) (by omega) w2);obtain⟨n,hn⟩:=qqe (smN b s j);have hnum:n.bl=b/\n.sl=s/\n.jo=j/\n.pa<=2/\n.Ok/\j<=12/\b<=12/\mayS n.I=true:=by
   rw[hn];exact⟨rfl,rfl,rfl,by show(s-1)/4+1<=2;omega,hokN,by omega,by omega,CaN.may hokN (by show 7<=_;decide)⟩
  rw[<-hn]at HS;have HB:=Y3 hnum hnn hl60;obtain⟨L,hL⟩:=qqe (n.C);have hL1:∀v∈L,v.oneCell'=true:=by rw[hL];exact n.C_one
  have hL7:L.length=7:=by rw[hL];rfl
  have hsi:(Tryz.prog.info? 40).map (·.size)=some L.length:=by rw[hL7];exact yY
  rw[<-hL]at HS;have HL:=qqh hL;clear hnn hb hs hj hl60 hokN hn hnum hL HQ;go_wp2_with fail
  refine HS.o.mono ?_;rintro e w3 ⟨rfl,hb3⟩;have hu3:=qqb hb3;have HM:=qqh (EJ n HB.o.1.2.2.2.2.1 HB.o.1.2.2.2.2.2.2.2 w3 (H2.o.2.2.1.keep hu3 (fun h=>h)) (H2.o.2.2.2.keep hu3 (fun h=>h)));rw[<-HL.o]at HM;have hB3:Below w.heap.size w w3:=H2.o.1.trans ((Upd.below hu3).mono H2.o.1.size);have s03:=hu3.cellv s0 (fun h=>h);have H3:=Y2 hB3 (hu3.blockv H2.o.2.1);clear hb3 hu3 hB3 HS s0 s1 s2;go_wp2_with fail
  refine HM.o.mono ?_;rintro e w4 ⟨own4,ssd,back,rfl,D4,hb4,ho4⟩;have hu4:=qqb hb4;have HA:=qqh (tp D4 (WZ (O:=[]) HB.o.1.2.2.2.2.1 HB.o.1.2.2.2.2.2.2.2 (by rw[qzi])) (by rw[qzi]));have gA4:=hu4.blockv H3.o.2;have hB4:Below w.heap.size w w4:=H3.o.1.trans (hb4.mono H3.o.1.size);have H4:=Y5 D4 hB4 gA4 hb4.size ho4;have s04:=hu4.cellv s03 (fun h=>h);clear D4 hb4 ho4 hu4 gA4 hB4 HM s03;go_wp2_with fail
  refine HA.o.mono ?_;rintro e w5 ⟨c,p,own5,li,lc,lf,rfl,h5,hp1,hp2,d5,-⟩;replace h5:CaAt own5 w5 c n p (attS n):=h5;subst hp1;obtain⟨w5',hw5⟩:=qqe (w5.alloc (.cells #[ptr li,ptr lc,ptr lf] 67));have hu5:Upd (fun _=>False) w5 w5':=by rw[hw5];exact(uur _ w5).alloc _
  have d5':=d5.trans (h5.didNew hu5);have oA:own4 A=0:=H4.o.2.2.2.2 A (zd H3.o.2);have gA5:=ym d5' H4.o.2.2.1 oA;have s05:w5'.cell? ⟨A,0,none⟩=some (.int .i64 (b:Int)):=by rw[za gA5.1];rfl
  have hob5:∀i,i<w3.heap.size->own5 i=0:=fun i hi=>(d5.old i (qXy hi H4.o.2.2.2.1)).trans (H4.o.2.2.2.2 i hi);have hB5:Below w.heap.size w w5':=zj H4.o.2.1 d5'.upd (qXv _) (fun k hk=>Nat.le_of_not_lt fun hlt=>hk.1 (H4.o.2.2.2.2 k (qXy hlt H3.o.1.size)));have h35:w3.heap.size<=w5'.heap.size:=qXx H4.o.2.2.2.1 d5'.upd.size;have HP:=qqh (Qe b (by have:=HB.o.1;omega) w5');have H5:=Y5 (h5.new hu5) gA5 hB5 hob5 h35;rw[hw5]at s05;clear h5 d5 d5' hu5 gA5 hob5 hB5 oA HA s04 h35;go_wp2_with fail
  rw[<-hw5];clear hw5 s05;refine HP.o.mono ?_;rintro e w6 ⟨pp,vo,xs,rfl,hps,hb6⟩;have hu6:=qqb hb6;have hR6:Run14 own5 w6 c n p (attS n) 3 (fun j=>w5'.heap.size<=j) pp 1 vo xs:=⟨H5.o.1.new hu6,Jc n,by rw[HB.o.1.1];exact hps,fun i hi _=>by
   have h1:=H5.o.1.nib.lt;have h2:=H5.o.1.tur.lt;exact⟨H5.o.1.far i hi,by omega,by omega⟩⟩
  have ho6:∀i,i<w3.heap.size->own5 i=0/\¬w5'.heap.size<=i:=fun i hi=>⟨H5.o.2.2.2.1 i hi,by have:=H5.o.2.2.2.2;omega⟩
  obtain⟨Z,hZ,-⟩:=Jd n HB.o.1.2.2.2.2.1;have H6:=Y4 hR6 hZ (H5.o.2.2.1.trans (hb6.mono H5.o.2.2.1.size)) ho6;clear hps hb6 hu6 hR6 hZ ho6 HP;go_wp2_with fail
  go_loopg[12] l.length (fun gk s12 wr=>∃k:Nat,k+gk=l.length/\s12=.int .i64 (k:Int)/\∃own' a B' vo' xs',Run14 own' wr c n p a (3+k*40) B' pp (1+2*k) vo' xs'/\Did14 own5 w6 (fun j=>w5'.heap.size<=j) own' wr B'/\a.NoP/\a.Hi n Z)
  case atStart=>exact⟨0,by omega,rfl,own5,attS n,_,vo,xs,H6.o.1,Did14.refl _ _ _,Rg n,H6.o.2.1⟩
  case round=>
   obtain⟨k,hk,rfl,own1,a,B1,vo1,xs1,hR,hD,hP,hHi⟩:=hrel;by_cases hlt:k<l.length
   .obtain ⟨bl,off,c',hvv,hbl,hc0,hc1,hc2,hc3⟩:=qE HN.o.2.2.1 hlt;cases hvv;have hnk:=HB.o.2.1 k hlt;obtain⟨od,hod⟩:=qqe (l[k]);rw[<-hod]at hc0 hc1 hc2 hc3 hnk;have q1:(k:Int)<(l.length:Int):=by omega
    have k0:(0:Int)<=(k:Int):=by omega
    have hBw:Below w.heap.size w wr:=H6.o.2.2.1.trans (hD.below (fun i hi=>H6.o.2.2.2 i (qXy hi H3.o.1.size)) H6.o.2.2.1.size);have hrow:wr.rangeAt bl (off+k*4) [.int .i64 od.dd,.int .i64 od.bb,.int .i64 od.nn,.int .i64 od.mm]:=fun i u hu=>by
     rcases i with _|_|_|_|i
     .cases hu;exact(hBw.cell (p:=⟨bl,off+k*4,none⟩) hbl).trans hc0
     .cases hu;exact(hBw.cell (p:=⟨bl,off+k*4+1,none⟩) hbl).trans hc1
     .cases hu;exact(hBw.cell (p:=⟨bl,off+k*4+2,none⟩) hbl).trans hc2
     .cases hu;exact(hBw.cell (p:=⟨bl,off+k*4+3,none⟩) hbl).trans hc3
     .cases hu
    have hd0:=(hBw.cell (p:=⟨bl,off+k*4,none⟩) hbl).trans hc0;obtain⟨dd,bb,nn,mm⟩:=od;simp only at hrow hnk hd0;obtain⟨nm,hnm⟩:=qxs hnk.1;subst hnm;have hpa:=HB.o.1.2.2.2.1;have hjo:=HB.o.1.2.2.1;have hj12:=HB.o.1.2.2.2.2.2.1;have hl60:=HB.o.2.2;have hdo:=does14 hR (by omega) (by omega) (by omega) dd bb mm nm (by omega);have hhi:=hHi.does14 HB.o.1.2.2.2.2.1 hR.gd hR.ca.jg (by omega) dd bb nm mm;have HD:=Y6 hR hD hP hdo hHi hhi;clear hR hD hP hdo hBw hbl hc0 hc1 hc2 hc3 hod hnk hpa hjo hj12 hlt hHi hhi;by_cases h7:dd=7
    .subst h7;go_wp2_with fail
     go_roundg (gk-1)
     case measure=>omega
     case rel=>exact⟨k+1,by omega,by go_num,own1,a,B1,vo1,xs1,HD.o.1.mono (by omega) (by omega),HD.o.2.1,HD.o.2.2.1,HD.o.2.2.2.2.1⟩
    .have q7:(dd !=7)=true:=by simpa using h7
     have HD7:=qqh h7;clear h7;go_wp2_with (first
      |(refine qZg rfl _ _ rfl _ _ rfl _ _ hrow Tryz.underlying84 rfl Qi ?_)
      |fail)
     refine HD.o.2.2.2.1.mono ?_;rintro e w7 ⟨cd,ok,rfl,own7,B7,vo7,xs7,hR7,hD7⟩;have H7:=Y2 hR7 (HD.o.2.1.trans hD7);clear hR7 hD7;go_wp2_with fail
     go_roundg (gk-1)
     case measure=>omega
     case rel=>
      have hpa:=HB.o.1.2.2.2.1;have hjo:=HB.o.1.2.2.1;have hj12:=HB.o.1.2.2.2.2.2.1;exact⟨k+1,by omega,by go_num,own7,_,B7,vo7,xs7,H7.o.1.mono (by omega) (by omega),H7.o.2,CaS.Dn.noP (CaS.dn_does14 n a dd bb nm mm HD7.o) HD.o.2.2.1,HD.o.2.2.2.2.2⟩
   .obtain rfl:k=l.length:=by omega
    have q1:¬((l.length:Int)<(l.length:Int)):=by omega
    have hpa:=HB.o.1.2.2.2.1;have hjo:=HB.o.1.2.2.1;have hj12:=HB.o.1.2.2.2.2.2.1;have hl60:=HB.o.2.2;obtain⟨b',hbe,hbP,hbO,hbT,hbF,E,R,f0,hHs⟩:=hR.gd.all20 hP hHi HB.o.1.2.2.2.2.1 hR.ca.wl;have hcl:=wj hR.ca hR.gd.fit.w1 (by have h1:=hR.gd.fit.dO;have h2:=hR.ca.wl;omega);rw[hbe]at hcl;have hnx:b'.next<=1099511627776:=by have:=hbF.nx;omega
    have HR:=Y8 hD hcl hbP hbO hbT hbF.sm hnx hHs;clear hR hD hP hHi hcl hbP hbO hbT hbF hHs hnx hbe hlt hk hpa hjo hj12 hl60;go_wp2_with fail
    refine HR.o.2.1.mono ?_;rintro e w7 ⟨rfl,own7,h7,d7⟩;have hsu:=Qc h7;rw[<-HL.o]at hsu;have HS7:=qqh hsu;have H7:=Y2 h7 d7;clear h7 d7 hsu;go_wp2_with fail
    refine HS7.o.mono ?_;rintro e w8 ⟨rfl,hb8⟩;obtain⟨w9,hw9⟩:=qqe (w8.alloc (.cells L.toArray 40));have hu9:Upd (fun _=>False) w7 w9:=by rw[hw9];exact(uuo hb8).alloc _
    obtain⟨tb,htb⟩:=qqe (w8.heap.size);have g9:w9.heap[tb]?=some (.cells L.toArray 40 (0,0)):=by rw[hw9,htb];exact zc w8 _ rfl
    have h9:=H7.o.1.new hu9;have d9:=H7.o.2.trans (H7.o.1.didNew hu9);have o9:own7 tb=0:=H7.o.1.far _ (by rw[htb];exact hb8.size);have hen:=qT h9 HR.o.2.2.2.2.2.2.2 HR.o.2.2.1.1 HR.o.2.2.2.1 HR.o.2.2.2.2.2.2.1;rw[<-HL.o]at hen;have r9:=zg g9;have H9:=Y4 h9 d9 (And.intro g9 o9) hen;have HW9:=Y2 hw9 htb;clear h9 d9 g9 o9 hen hw9 htb hb8 hu9 HS7;have hutS:=Tryz.underlying40;go_wp2_with (first
     |(refine zk rfl _ _ _ rfl _ _ L rfl rfl (by rw[hL7];rfl) hsi hL1 ?_;refine Stop.i ?_)
     |fail)
    rw[<-HW9.o.1,<-HW9.o.2];unfold Stop;go_wp2_with (first
     |(refine qZg rfl _ _ rfl _ _ rfl _ _ r9 hutS rfl hsi ?_)
     |fail)
    refine H9.o.2.2.2.mono ?_;rintro e w10 ⟨v,wh,sq,rfl,hsq,sE,own10,h10,d10,o10⟩;have gT10:=ym d10 H9.o.2.2.1.1 H9.o.2.2.1.2;have k3:w10.cell? ⟨tb,3,none⟩=some (.int .i64 (n.jo:Int)):=by rw[za gT10.1,HL.o];rfl
    obtain⟨av,cv,hva⟩:=sE.rd.nil_iff;subst hva;have HX:=qqh hsq;have H10:=Y5 h10 (H9.o.2.1.trans d10) gT10 sE (fun g hg=>(o10 g hg).2);obtain⟨T,hT⟩:=qqe (layC n.sl n.jo n.pa n.lo);have hfT:∀W:World,(Instr.field 43 (.agg T.toArray) 1).run Tryz.prog W=.ok (.int .i64 (n.jb:Int)) W:=fun W=>by rw[hT];exact UC W
    have hT7:T.length=7:=by rw[hT];rfl
    have HT:=qqh hT;clear hT h10 d10 gT10 sE o10 hsq r9 hutS;go_wp2_with fail
    refine qZj (S:=fun W=>W.cell? ⟨tb,3,none⟩=some (.int .i64 (n.jo:Int))) (by kernel_rfl) (by rw[qYo];exact k3) (fun hHeld=>?_);refine Wl.i [0,1,4,5] ?_;iterate 4 refine Wl.t hHeld ?_
    refine Wl.o ?_;refine Wl.r 2 (fun K hK=>?_);go_simp
    have ud:Upd (fun _=>False) w10 w10.drew:=(uur _ w10).drew;refine(WN (H10.o.1.new ud)).mono ?_;rintro e w11 ⟨rfl,hb11⟩;rw[<-HT.o];have hu11:Upd (fun _=>False) w10 w11:=ud.trans (uuo hb11);have h11:=H10.o.1.new hu11;have gT11:=ym (H10.o.1.didNew hu11) H10.o.2.2.1.1 H10.o.2.2.1.2;have H11:=Y5 h11 (H10.o.2.1.trans (H10.o.1.didNew hu11)) gT11 (Je h11 HR.o.2.2.1.1 HR.o.2.2.2.1) (H10.o.2.2.2.1.keep hu11 (fun _ _ h=>h));have hH1:=hu11.cellv k3 (fun h=>h);refine hK.o _ _ hH1 (fun _=>?_);clear hK K hHeld ud hb11 hu11 h11 gT11 k3;refine Wl.i [3] ?_;iterate 1 refine Wl.t hH1 ?_
    refine Wl.o ?_;refine Wl.r 6 (fun K hK=>?_);go_simp
    refine H11.o.2.2.2.1.mono ?_;rintro e w12 ⟨va,Lr,rfl,hp,sL,own12,h12,d12,o12⟩;have gT12:=ym d12 H11.o.2.2.1.1 H11.o.2.2.1.2;have hH2:w12.cell? ⟨tb,3,none⟩=some (.int .i64 (n.jo:Int)):=by rw[za gT12.1,HL.o];rfl
    refine hK.o _ _ hH2 (fun _=>?_);clear hK K;refine Wl.i [7,8] ?_;iterate 2 refine Wl.t hH2 ?_
    refine Wl.o ?_;refine Wl.i [9,10,11] ?_;iterate 3 refine Wl.t hH2 ?_
    refine Wl.o ?_;refine Wl.d ?_;have saz:=H11.o.2.2.2.2.keep d12.upd (fun g hg hs=>hs.1 (H10.o.2.2.2.2 g hg));have oga:∀g,(Value.slice av (b'.ents n).length cv).ownBlock=some g->own12 g=0:=fun g hg=>(d12.old g (H11.o.2.2.2.2.lt hg)).trans (H10.o.2.2.2.2 g hg);obtain⟨E1,hE1⟩:=qqe (b'.ents n);have q20:E1.length<=8:=by
     have h1:=(CaS.ents_enok HR.o.2.2.2.2.1 HR.o.2.2.2.2.2.1).need HB.o.1.2.2.2.2.1;rw[<-hE1]at h1;have h2:=HB.o.1.2.2.2.1;have h3:=h1.1;unfold needN at h3;omega
    have hct:=rS h12 2;rw[CaS.live_count HR.o.2.2.2.2.1 HR.o.2.2.2.2.2.1]at hct;rw[<-hE1]at hct saz oga⊢;have hLr:∀r∈Lr,rseq r<=sq:=fun r hr=>HX.o r (hp.mem_iff.1 hr);obtain⟨bv,cv2,hvb⟩:=sL.rd.nil_iff;subst hvb;have H12:=Y9 h12 (H11.o.2.1.trans d12) saz sL oga (fun g hg=>(o12 g hg).2) hLr hE1 hct;clear hH1 hH2 h12 d12 saz sL oga o12 hLr hp gT12 hE1 hct;clear hsi hT7 hL7 hL1 hfT;go_wp2_with fail
    refine H12.o.2.2.2.2.2.2.2.2.mono ?_;rintro e w13 ⟨rfl,own13,h13,d13⟩;have H13:=Y2 h13 d13;clear h13 d13;go_wp2_with fail
    obtain⟨gk2,hgk2⟩:∃x,x=gk:=⟨_,rfl⟩
    clear hgk2;go_loopg[21] E1.length (fun gk s20 wz=>∃i:Nat,i+gk=E1.length/\s20=.int .i64 (i:Int)/\∃ownz,CaAt ownz wz c n p b'/\Did own12 ownz w12 wz)
    case atStart=>exact⟨0,by omega,rfl,own13,H13.o.1,H13.o.2⟩
    case round=>
     obtain⟨i,hi,rfl,ownz,hz,dz⟩:=hrel;by_cases hlt:i<E1.length
     .have saz:=H12.o.2.2.1.keep dz.upd (fun g hg hs=>hs.1 (H12.o.2.2.2.2.1 g hg));obtain⟨x,hx⟩:=qqe (E1[i]);obtain⟨m,hm,hxe,hpn,hp0,hp1⟩:=CaS.ents_in HR.o.2.2.2.2.1 (x:=x) (by rw[hx,<-H12.o.2.2.2.2.2.2.2.1];exact qyz hlt);obtain⟨ga,oa,ca,ea,hga,hca⟩:=saz.rd.at (by omega);cases ea;have ra:=wH (enc:=entC) (m:=4) (fun _=>rfl) hca hlt;rw[<-hx]at ra;have rp:∀i',i=i'+1->∃z:Ent,(z.b:Int)<x.b/\wr.cell? ⟨ga,oa+i'*4,none⟩=some (.int .i64 (z.b:Int)):=fun i' hi'=>by
       have hl':i'<E1.length:=by omega
       have hr':=wH (enc:=entC) (m:=4) (fun _=>rfl) hca hl';have hso:=CaS.ents_sorted n b';rw[<-H12.o.2.2.2.2.2.2.2.1]at hso;have:=qXe.1 hso i' i hl' hlt (by omega);rw[<-hx]at this;exact⟨E1[i'],by omega,hr' 0 _ rfl⟩
      have hml:m<b'.ps.length:=by rw[HR.o.2.2.2.2.1.hpl];exact hm
      have hpl:=qu hz (m:Int);rw[yZ hml hpn,zQ.2 ⟨m,hml,rfl,hpn⟩]at hpl;obtain⟨xb,xs,xd,xm⟩:=x;injection hxe with h1 h2 h3 h4
      subst h1;have h2':(plc b'.ps xb).1=(xs:Int):=by omega
      rw[h2',<-h3]at hpl;replace ra:wr.rangeAt ga (oa+i*4) [.int .i64 (xb:Int),.int .i64 (xs:Int),.bool xd,.int .i64 (xm:Int)]:=ra;have hb0:wr.cell? ⟨ga,oa+i*4,none⟩=some (.int .i64 (xb:Int)):=ra 0 _ rfl;have q1:(i:Int)<(E1.length:Int):=by omega
      have i0:(0:Int)<=(i:Int):=by omega
      have oga:ownz ga=0:=(dz.old ga (H12.o.2.2.1.lt rfl)).trans (H12.o.2.2.2.2.1 ga rfl);have HZ:=Y5 hz dz hpl oga rp;clear hz dz saz hpl hga hca hml hx hm hpn hp0 hp1 h2 h3 h4 h2' hlt oga rp;go_wp2_with fail
      refine HZ.o.2.2.1.mono ?_;rintro e w14 ⟨rfl,own14,h14,d14⟩;obtain⟨w15,hw15⟩:=qqe (w14.alloc (.cells #[.int .i64 (xs:Int),.bool xd] 95));have hu15:Upd (fun _=>False) w14 w15:=by rw[hw15];exact(uur _ w14).alloc _
      obtain⟨pb,hpb⟩:=qqe (w14.heap.size);have g15:w15.heap[pb]?=some (.cells #[.int .i64 (xs:Int),.bool xd] 95 (0,0)):=by rw[hw15,hpb];exact zc w14 _ rfl
      have z0:w15.cell? ⟨pb,0,none⟩=some (.int .i64 (xs:Int)):=by rw[za g15];rfl
      have z1:w15.cell? ⟨pb,1,none⟩=some (.bool xd):=by rw[za g15];rfl
      have ra15:=hu15.range (d14.upd.range ra (fun hs=>hs.1 HZ.o.2.2.2.1)) (fun h=>h);have a0:w15.cell? ⟨ga,oa+i*4,none⟩=some (.int .i64 (xb:Int)):=ra15 0 _ rfl;have a1:w15.cell? ⟨ga,oa+i*4+1,none⟩=some (.int .i64 (xs:Int)):=ra15 1 _ rfl;have a2:w15.cell? ⟨ga,oa+i*4+2,none⟩=some (.bool xd):=ra15 2 _ rfl;have rp15:∀i',i=i'+1->∃z:Ent,(z.b:Int)<xb/\w15.cell? ⟨ga,oa+i'*4,none⟩=some (.int .i64 (z.b:Int)):=fun i' hi'=>by
       obtain⟨z,k1,k2⟩:=HZ.o.2.2.2.2 i' hi';exact⟨z,k1,hu15.cellv (d14.upd.cellv k2 (fun hs=>hs.1 HZ.o.2.2.2.1)) (fun h=>h)⟩
      have H15:=Y2 (h14.new hu15) (HZ.o.2.1.trans (d14.trans (h14.didNew hu15)));have HW15:=Y2 hw15 hpb;clear h14 d14 hu15 g15 hw15 hpb ra hb0 ra15;have ud:=(uur (fun _=>False) w15).drew;by_cases hi0:i=0
      .have q5:¬(0:Int)<(i:Int):=by omega
       have q6:¬0<i:=by omega
       clear rp15 a0 hi0;go_wp2_with fail
       rw[<-HW15.o.1,<-HW15.o.2];refine qZj (S:=fun W=>W.cell? ⟨pb,0,none⟩=some (.int .i64 (xs:Int))/\W.cell? ⟨pb,1,none⟩=some (.bool xd)/\W.cell? ⟨ga,oa+i*4+1,none⟩=some (.int .i64 (xs:Int))/\W.cell? ⟨ga,oa+i*4+2,none⟩=some (.bool xd))
        (by kernel_rfl) (⟨by rw[qYo];exact z0,by rw[qYo];exact z1,by rw[qYo];exact a1,by rw[qYo];exact a2⟩) (fun hHeld=>?_)
       refine Wl.i [0,1,2,3,4,5,6,7,8,9,10] ?_;iterate 11 refine Wl.t hHeld ?_
       refine Wl.o ?_;refine Wl.i [11,12] ?_;iterate 2 refine Wl.t hHeld ?_
       refine Wl.o ?_;refine Wl.i [13,14,15,16,17,18,19] ?_;iterate 7 refine Wl.t hHeld ?_
       refine Wl.o ?_;refine Wl.i [20] ?_;iterate 1 refine Wl.t hHeld ?_
       refine Wl.o ?_;refine Wl.i [21,22] ?_;iterate 2 refine Wl.t hHeld ?_
       refine Wl.o ?_;refine Wl.i [23,24,25] ?_;iterate 3 refine Wl.t hHeld ?_
       refine Wl.o ?_;refine Wl.i [26,27,28,29,30,31,32] ?_;iterate 7 refine Wl.t hHeld ?_
       refine Wl.o ?_;refine Wl.i [33,34,35,36,37] ?_;iterate 5 refine Wl.t hHeld ?_
       refine Wl.o ?_;refine Wl.i [38,39] ?_;iterate 2 refine Wl.t hHeld ?_
       refine Wl.o ?_;refine Wl.d ?_;clear hHeld z0 z1 a1 a2;go_wp2_with fail
       go_roundg (gk-1)
       case measure=>omega
       case rel=>exact⟨i+1,by omega,by go_num,own14,H15.o.1.new ud,H15.o.2.trans (H15.o.1.didNew ud)⟩
      .obtain ⟨i',hi'⟩:∃i',i=i'+1:=⟨i-1,by omega⟩
       have q5:(0:Int)<(i:Int):=by omega
       obtain⟨z,zb,b0⟩:=rp15 i' hi';have q6:0<i:=by omega
       have q7:¬(xb:Int)<=(z.b:Int):=by omega
       have q8:¬xb<=z.b:=by omega
       have e6:(i:Int)-1=(i':Int):=by omega
       have e7:IntKind.i64.wrap (i':Int)=(i':Int):=qxv _ (by omega);have i0':(0:Int)<=(i':Int):=by omega
       have q1':(i':Int)<(E1.length:Int):=by omega
       clear rp15 hi' hi0;go_wp2_with fail
       rw[<-HW15.o.1,<-HW15.o.2];refine qZj (S:=fun W=>W.cell? ⟨pb,0,none⟩=some (.int .i64 (xs:Int))/\W.cell? ⟨pb,1,none⟩=some (.bool xd)/\W.cell? ⟨ga,oa+i*4+1,none⟩=some (.int .i64 (xs:Int))/\W.cell? ⟨ga,oa+i*4+2,none⟩=some (.bool xd)/\W.cell? ⟨ga,oa+i*4,none⟩=some (.int .i64 (xb:Int))/\W.cell? ⟨ga,oa+i'*4,none⟩=some (.int .i64 (z.b:Int)))
        (by kernel_rfl) (⟨by rw[qYo];exact z0,by rw[qYo];exact z1,by rw[qYo];exact a1,by rw[qYo];exact a2,by rw[qYo];exact a0,by rw[qYo];exact b0⟩) (fun hHeld=>?_)
       refine Wl.i [0,1,2,3,4,5,6,7,8,9,10] ?_;iterate 11 refine Wl.t hHeld ?_
       refine Wl.o ?_;refine Wl.i [11,12] ?_;iterate 2 refine Wl.t hHeld ?_
       refine Wl.o ?_;refine Wl.i [13,14,15,16,17,18,19] ?_;iterate 7 refine Wl.t hHeld ?_
       refine Wl.o ?_;refine Wl.i [20] ?_;iterate 1 refine Wl.t hHeld ?_
       refine Wl.o ?_;refine Wl.i [21,22] ?_;iterate 2 refine Wl.t hHeld ?_
       refine Wl.o ?_;refine Wl.i [23,24,25] ?_;iterate 3 refine Wl.t hHeld ?_
       refine Wl.o ?_;refine Wl.i [26,27,28,29,30,31,32] ?_;iterate 7 refine Wl.t hHeld ?_
       refine Wl.o ?_;refine Wl.i [33,34,35,36,37] ?_;iterate 5 refine Wl.t hHeld ?_
       refine Wl.o ?_;refine Wl.i [38,39] ?_;iterate 2 refine Wl.t hHeld ?_
       refine Wl.o ?_;refine Wl.d ?_;clear hHeld z0 z1 a0 a1 a2 b0;go_wp2_with fail
       go_roundg (gk-1)
       case measure=>omega
       case rel=>exact⟨i+1,by omega,by go_num,own14,H15.o.1.new ud,H15.o.2.trans (H15.o.1.didNew ud)⟩
     .obtain rfl:i=E1.length:=by omega
      have q1:¬((E1.length:Int)<(E1.length:Int)):=by omega
      have slz:=H12.o.2.2.2.1.keep dz.upd (fun g hg hs=>hs.1 (H12.o.2.2.2.2.2.1 g hg));have hLl:=slz.le;unfold maxLen at hLl;have hB13:Below w.heap.size w wr:=by
       have D:=H12.o.2.1.trans dz;have hB0:=H6.o.2.2.1.trans (HR.o.1.below (fun i hi=>H6.o.2.2.2 i (qXy hi H3.o.1.size)) H6.o.2.2.1.size);refine zj hB0 D.upd (qXv _) (fun k hk=>?_);rcases Nat.lt_or_ge k w.heap.size with hlt|hge
       .exact absurd ((HR.o.1.2.1 k (qXy hlt H6.o.2.2.1.size)).trans (H6.o.2.2.2 k (qXy hlt H3.o.1.size)).1) hk.1
       .exact hge
      have HZ:=Y3 hz slz hB13;clear hz dz slz hB13 hlt;go_wp2_with fail
      obtain⟨wq,hwq⟩:∃x,x=wr:=⟨_,rfl⟩
      go_loopg[24] Lr.length (fun gk s24 wz=>∃i:Nat,i+gk=Lr.length/\s24=.int .i64 (i:Int)/\Upd (fun _=>False) wq wz)
      case atStart=>exact⟨0,by omega,rfl,by rw[hwq];exact uur _ _⟩
      case round=>
       obtain⟨i,hi,rfl,uz⟩:=hrel;rw[hwq]at uz;by_cases hlt:i<Lr.length
       .obtain ⟨gb,ob,cb,eb,hgb,hcb⟩:=(HZ.o.2.1.keep uz (fun _ _ h=>h)).rd.at (by omega);cases eb;have rb:=wH (enc:=recCs) (m:=7) (fun _=>rfl) hcb hlt;have hle:(rseq Lr[i]:Int)<=(sq:Int):=by have:=H12.o.2.2.2.2.2.2.1 Lr[i] (qyz hlt);omega
        have b0:=rb 0 (.int .i64 (rseq Lr[i]:Int)) (by
         show some (Value.int .i64 ((natsI Lr[i]).getD 0 0))=_;rw[yi];rfl)
        obtain⟨rs,hrs⟩:=qqe (rseq Lr[i]);rw[<-hrs]at hle b0;rw[qXs]at b0;have q2:¬(sq:Int)<(rs:Int):=by omega
        have q3:(i:Int)<(Lr.length:Int):=by omega
        have i0:(0:Int)<=(i:Int):=by omega
        have HU:=qqh uz;clear hgb hcb rb hle hrs hlt uz;go_wp2_with fail
        go_roundg (gk-1)
        case measure=>omega
        case rel=>exact⟨i+1,by omega,by go_num,by rw[hwq];exact HU.o⟩
       .obtain rfl:i=Lr.length:=by omega
        have q3:¬((Lr.length:Int)<(Lr.length:Int)):=by omega
        have h9:=HZ.o.1.new uz;have HA:=qqh (Vb wr h9.nib h9.tur);have HB9:=qqh (HZ.o.2.2.trans ((Upd.below uz).mono HZ.o.2.2.size));clear uz h9 hlt;go_wp2_with fail
        refine HA.o.mono ?_;rintro e w14 ⟨rfl,hb14⟩;have H14:=qqh (HB9.o.trans (hb14.mono HB9.o.size));clear hb14;go_wp2
        go_ret
        exact⟨rfl,H14.o⟩
end Go.Proofs.YtfhfbpmlnjdfoaaGreatDoor.attachRecords
