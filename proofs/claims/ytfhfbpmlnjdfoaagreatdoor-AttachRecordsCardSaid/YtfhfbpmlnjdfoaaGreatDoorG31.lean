/- What a function answers that is handed in (gua -/
import Derived.Test.YtfhfbpmlnjdfoaaGreatDoorG29
set_option maxRecDepth 100000
set_option maxHeartbeats 1000000
namespace Go.Proofs.YtfhfbpmlnjdfoaaGreatDoor
open Go Go.RowKit
theorem XJ:(Tryz.prog.info? 165).map (·.size)=some 13:=by kernel_rfl
structure LogF(w:World)(l b base n fi:Nat):Prop where
 str:w.heap[l]?=some (.cells #[.pointer (some ⟨b,0,none⟩),.int .i64 (base:Int),.int .i64 (n:Int),.func (.func 146) #[] #[],.func (.func 147) #[] #[],.func (.func fi) #[] #[]] 262 (0,0))
theorem LogF.lt{w:World}{l b base n fi:Nat}(h:LogF w l b base n fi):l<w.heap.size:=zd h.str
theorem LogF.keep{w w':World}{l b base n fi:Nat}(h:LogF w l b base n fi){S:Nat->Prop}(hu:Upd S w w')(hs:¬S l):LogF w' l b base n fi:=⟨(hu.block l h.lt hs).trans h.str⟩
theorem LogF.c{w:World}{l b base n fi:Nat}(h:LogF w l b base n fi):w.cell? ⟨l,0,none⟩=some (.pointer (some ⟨b,0,none⟩))/\w.cell? ⟨l,1,none⟩=some (.int .i64 (base:Int))/\w.cell? ⟨l,2,none⟩=some (.int .i64 (n:Int))/\
  w.cell? ⟨l,3,none⟩=some (.func (.func 146) #[] #[])/\w.cell? ⟨l,4,none⟩=some (.func (.func 147) #[] #[])/\w.cell? ⟨l,5,none⟩=some (.func (.func fi) #[] #[]):=
 ⟨za h.str 0,za h.str 1,za h.str 2,za h.str 3,za h.str 4,za h.str 5⟩
theorem SB{S:Nat->Prop}{w:World}{b:Nat}{F:List Bk}{O:List (Nat×Bk)}{P:List Int}(h:Dv S w b F O P)(base n:Nat)(hn:1<=n)(hbn:base+n<=F.length)(fi:Nat):
  Calls Tryz.prog 145 #[.pointer (some ⟨b,0,none⟩),.int .i64 (base:Int),.int .i64 (n:Int),.func (.func 146) #[] #[],.func (.func 147) #[] #[],.func (.func fi) #[] #[]] w
   fun e w'=>e=.returned (.tuple #[.pointer (some ⟨w.heap.size,0,none⟩),.int .i64 0])/\LogF w' w.heap.size b base n fi/\Below w.heap.size w w':=by
 have hfl:=h.good.fl;have e1:=wn 245 _ _ _ Tryz.underlying245;have e2:=wn 246 _ _ _ Tryz.underlying246;have e3:=wn 247 _ _ _ Tryz.underlying247;have q1:decide ((base:Int)<0)=false:=by simp
 have q2:decide ((n:Int)<1)=false:=by simp;omega
 have q3:decide ((F.length:Int)<(base:Int))=false:=by simp;omega
 have q4:decide ((F.length:Int)-(base:Int)<(n:Int))=false:=by simp;omega
 have H:=qqh h;clear h;go_enter Tryz.func145,Tryz.ntmps145
 go_wp2_with (first|(go_at_call 47;refine(wW H.o).mono ?_;rintro e w' ⟨rfl,rfl⟩))
 go_ret2
 exact⟨rfl,⟨zc _ _ rfl⟩,(qxl _ _).alloc (qXv _) _⟩
section
variable{own own':Nat->Nat}{w w':World}{c:Nat}{n:CaN}{p:CaP}{a:CaS}
theorem Jq(h:CaAt own w c n p a):Calls Tryz.prog 91 #[ptr c] w fun e w'=>e=.returned (.tuple #[ptr p.ssd,ptr p.back])/\Upd (fun _=>False) w w':=by
 obtain⟨c14,c15,-⟩:=h.cells;clear h;go_enter Tryz.func91,Tryz.ntmps91
 go_wp2
 go_quiet(fail)
 have hu:Upd (fun _=>False) w (w.drewN nq):=(uur _ w).drewN nq;generalize w.drewN nq=w2 at*;go_wp2
 go_ret2
 exact⟨rfl,hu⟩
theorem C_one(n:CaN):∀v∈n.C,v.oneCell'=true:=by
 intro v hv;simp only[CaN.C,qzr,qXd,qZb]at hv;rcases hv with rfl|rfl|rfl|rfl|rfl|rfl|rfl<;>rfl
theorem WM(sl jo pa lo:Nat):∀v∈layC sl jo pa lo,v.oneCell'=true:=by
 intro v hv;simp only[qzr,qXd,qZb]at hv;rcases hv with rfl|rfl|rfl|rfl|rfl|rfl|rfl<;>rfl
theorem Qc(h:CaAt own w c n p a):Calls Tryz.prog 25 #[ptr c] w fun e w'=>e=.returned (.agg n.C.toArray)/\Below w.heap.size w w':=by
 obtain⟨U,hU⟩:=qqe (n.C);have hr:w.rangeAt c 0 U:=fun j v hv=>by
  have:=zg h.str j v (by rw[caC,qyi (by have:=(qyp.1 hv).1;rw[hU]at this;exact this),<-hU];exact hv);exact this
 have hU7:U.length=7:=by rw[hU];rfl
 have hs:(Tryz.prog.info? 40).map (·.size)=some U.length:=by rw[hU7];exact yY
 have h1:∀v∈U,v.oneCell'=true:=by rw[hU];exact C_one n
 have hc:=qYp hr (.cells U.toArray 40);rw[<-hU];have H:=Y3 hs h1 hU7;clear h hU hs h1 hU7;go_enter Tryz.func25,Tryz.ntmps25
 go_wp2_with (first
  |(refine qZg rfl _ _ rfl _ _ rfl _ _ (qYp hr _) Tryz.underlying40 rfl H.o.1 ?_)
  |(refine zk rfl _ _ _ rfl _ _ _ rfl rfl (by rw[H.o.2.2];rfl) H.o.1 H.o.2.1 ?_)
  |fail)
 refine qYw (zM rfl _ _ w.heap.size 0 U _ rfl (zg (zc w _ rfl)) Tryz.underlying40 rfl H.o.1) rfl ⟨rfl,(qxl _ w).alloc (qXv _) _⟩
theorem WN(h:CaAt own w c n p a):Calls Tryz.prog 34 #[ptr c] w fun e w'=>e=.returned (.agg (layC n.sl n.jo n.pa n.lo).toArray)/\Below w.heap.size w w':=by
 obtain⟨U,hU⟩:=qqe (layC n.sl n.jo n.pa n.lo);have hU7:U.length=7:=by rw[hU];rfl
 have hr:w.rangeAt c 7 U:=fun j v hv=>by
  have:=zg h.str (7+j) v (by
   rw[caC,qyj (by show(7:Nat)<=7+j;omega),show 7+j-n.C.length=j by show 7+j-7=j;omega,qyi (by have:=(qyp.1 hv).1;rw[hU]at this;exact this),<-hU];exact hv)
  rw[qYe]at this;exact this
 have hs:(Tryz.prog.info? 43).map (·.size)=some U.length:=by rw[hU7];exact xG
 have h1:∀v∈U,v.oneCell'=true:=by rw[hU];exact WM _ _ _ _
 rw[<-hU];have H:=Y3 hs h1 hU7;clear h hU hs h1 hU7;go_enter Tryz.func34,Tryz.ntmps34
 go_wp2_with (first
  |(refine qZg rfl _ _ rfl _ _ rfl _ _ (qYp hr _) Tryz.underlying43 rfl H.o.1 ?_)
  |(refine zk rfl _ _ _ rfl _ _ _ rfl rfl (by rw[H.o.2.2];rfl) H.o.1 H.o.2.1 ?_)
  |fail)
 refine qYw (zM rfl _ _ w.heap.size 0 U _ rfl (zg (zc w _ rfl)) Tryz.underlying43 rfl H.o.1) rfl ⟨rfl,(qxl _ w).alloc (qXv _) _⟩
end
section
variable{own:Nat->Nat}{w w':World}{c:Nat}{n:CaN}{p:CaP}{a:CaS}{N:Nat}
theorem Uf{ps:List (Int×Bool)}{k:Int}(h:(getV ps k).2=true):∃m:Nat,m<ps.length/\k=(m:Int)/\(plc ps m).2=true/\plc ps m≠(-1,false):=by
 by_cases hc:getC ps k=0
 .obtain ⟨m,h1,rfl,h3⟩:=zQ.1 hc;rw[yZ h1 h3]at h;exact⟨m,h1,rfl,h,h3⟩
 .rw [qd hc]at h;cases h
theorem Ug(h:CaAt own w c n p a)(k:Int)(hd:(getV a.ps k).2=false):Calls Tryz.prog 90 #[ptr c,.int .i64 k] w (zu own w c n p a (.int .i64 0)):=by
 have HP:=qqh (qu h k);obtain⟨s,hs⟩:=qqe ((getV a.ps k).1);obtain⟨b,hb⟩:=qqe ((getC a.ps k==0));rw[<-hs,hd,<-hb]at HP;clear h hd hs hb;go_enter Tryz.func90,Tryz.ntmps90
 go_wp2_with fail
 refine HP.o.mono ?_;rintro e w2 ⟨rfl,own2,h2,d2⟩;obtain⟨w3,hw3⟩:=qqe (w2.alloc (.cells #[.int .i64 s,.bool false] 95));have hu3:Upd (fun _=>False) w2 w3:=by rw[hw3];exact(uur _ w2).alloc _
 have g3:w3.heap[w2.heap.size]?=some (.cells #[.int .i64 s,.bool false] 95 (0,0)):=by rw[hw3];exact zc w2 _ rfl
 have c1:=za g3 1;have H3:=Y3 (h2.new hu3) (d2.trans (h2.didNew hu3)) hw3;rw[hw3]at c1;clear h2 d2 hw3 hu3 g3 HP;cases b
 .go_wp2
  go_ret
  rw[<-H3.o.2.2];exact⟨rfl,own2,H3.o.1,H3.o.2.1⟩
 .go_wp2
  go_ret
  rw[<-H3.o.2.2];exact⟨rfl,own2,H3.o.1,H3.o.2.1⟩
theorem Uh(h:CaAt own w c n p a)(hg:a.Gd n N)(hN:N+2<=50000)(k:Int):Calls Tryz.prog 90 #[ptr c,.int .i64 k] w (zu own w c n p (a.back14 n k).1 (.int .i64 (a.back14 n k).2)):=by
 cases hd:(getV a.ps k).2
 case' false=>
  have e:a.back14 n k=(a,0):=by unfold CaS.back14;rw[if_pos hd]
  rw[e];exact Ug h k hd
 obtain⟨m,hm,rfl,h1,h2⟩:=Uf hd;have hgc:getC a.ps (m:Int)=0:=zQ.2 ⟨m,hm,rfl,h2⟩;have HPl:=qqh (qu h (m:Int));obtain⟨s,hs⟩:=qqe ((getV a.ps (m:Int)).1);rw[<-hs,hd,hgc]at HPl;replace HPl:Hid (Calls Tryz.prog 37 #[ptr c,.int .i64 (m:Int)] w (zu own w c n p a (.tuple #[zN s true,.bool true]))):=HPl;have hb:=hg.readB (m:Int);have hmb:m<n.bl:=by rw[<-h.pl];exact hm
 have E:a.back14 n (m:Int)=if(a.readB n (m:Int)).2.2≠0 then((a.readB n (m:Int)).1,(a.readB n (m:Int)).2.2)else(a.readB n (m:Int)).1.back14w n (m:Int) (a.readB n (m:Int)).2.1:=by
  conv=>lhs;unfold CaS.back14
  rw[if_neg (by rw[hd];decide)]
 rw[E];have HRd:∀{own1:Nat->Nat} {w1:World},CaAt own1 w1 c n p a->Calls Tryz.prog 45 #[ptr c,.int .i64 (m:Int)] w1 (sV own1 w1 c n p (a.readB n (m:Int)).1 (a.readB n (m:Int)).2.1 (a.readB n (m:Int)).2.2):=fun h1=>WL h1 (m:Int);obtain⟨r,hr⟩:=qqe (a.readB n (m:Int));rw[<-hr]at HRd hb⊢;obtain⟨b,x,c0⟩:=r;dsimp only at HRd hb⊢;unfold CaS.back14w;rw[qxu];obtain⟨r1,hr1⟩:=qqe (writeR b.bF b.bO b.bP m x);have HW:∀{own1:Nat->Nat} {w1:World},CaAt own1 w1 c n p b->x.length=64->Calls Tryz.prog 18 #[ptr p.back,.int .i64 (m:Int),.agg (bkC x).toArray] w1 (zu own1 w1 c n p (b.bdev r1) (.int .i64 r1.cd)):=fun h1 hl=>by
  rw[hr1];exact xM h1 m (by rw[h1.gl];exact hmb) x hl (by have:=hb.fit.bO;omega)
 have f1:(b.bdev r1).Fit (N+1):=by rw[hr1];exact hb.fit.bw m x
 have t1:(b.bdev r1).Tie n none:={hb.tie with}
 rw[<-hr1];obtain⟨b1,hb1⟩:=qqe (b.bdev r1);rw[<-hb1]at HW f1 t1⊢;have f2:=f1.fb;have t2:b1.fb.Tie n none:={t1 with}
 have HF:∀{own1:Nat->Nat} {w1:World},CaAt own1 w1 c n p b1->Calls Tryz.prog 46 #[ptr p.back] w1 (zu own1 w1 c n p b1.fb (.int .i64 (flushR b1.bF b1.bO b1.bP).cd)):=fun h1=>xJ h1;have HC:∀{own1:Nat->Nat} {w1:World},CaAt own1 w1 c n p b1.fb->Calls Tryz.prog 168 #[ptr c,.int .i64 (m:Int)] w1 (zu own1 w1 c n p (b1.fb.cleaned n (m:Int)).1 (.int .i64 (b1.fb.cleaned n (m:Int)).2)):=fun h1=>Sx h1 f2 (by omega) t2 (m:Int);unfold CaS.back14f;obtain⟨c2,hc2⟩:=qqe ((flushR b1.bF b1.bO b1.bP).cd);rw[<-hc2]at HF⊢;obtain⟨b2,hb2⟩:=qqe (b1.fb);rw[<-hb2]at HF HC⊢;obtain⟨⟨b3,c3⟩,hb3⟩:∃q,q=b2.cleaned n (m:Int):=⟨_,rfl⟩
 rw[<-hb3]at HC⊢;obtain⟨c1,hc1⟩:=qqe (r1.cd);rw[<-hc1]at HW⊢;dsimp only at HC⊢;have HH:=qqh (And.intro @HRd (And.intro @HW (And.intro @HF @HC)));obtain⟨R,hRR⟩:=qqe ((if c0≠0 then(b,c0)else if c1≠0 then(b1,c1)else if c2≠0 then(b2,c2)else(b3,c3)));rw[<-hRR];have HR:=qqh hRR;clear hRR h hg hN hm h1 h2 hgc hs hd hb hmb E HRd HW HF HC hr hr1 f1 t1 hb1 f2 t2 hc2 hb2 hb3 hc1;go_enter Tryz.func90,Tryz.ntmps90
 go_wp2_with fail
 refine HPl.out.mono ?_;rintro e w2 ⟨rfl,own2,h2,d2⟩;obtain⟨w3,hw3⟩:=qqe (w2.alloc (.cells #[.int .i64 s,.bool true] 95));have hu3:Upd (fun _=>False) w2 w3:=by rw[hw3];exact(uur _ w2).alloc _
 have g3:w3.heap[w2.heap.size]?=some (.cells #[.int .i64 s,.bool true] 95 (0,0)):=by rw[hw3];exact zc w2 _ rfl
 have c1':=za g3 1;have H3:=Y3 (h2.new hu3) (d2.trans (h2.didNew hu3)) hw3;have HD:=qqh (Jq H3.o.1);rw[hw3]at c1';clear h2 d2 hw3 hu3 g3 HPl;go_wp2_with fail
 rw[<-H3.o.2.2];refine HD.o.mono ?_;rintro e w4 ⟨rfl,hu4⟩;have H4:=Y2 (H3.o.1.new hu4) (H3.o.2.1.trans (H3.o.1.didNew hu4));have HRd:=qqh (HH.o.1 H4.o.1);clear hu4 c1' HD;go_wp2_with fail
 refine HRd.out.mono ?_;rintro e w5 ⟨y',cd,hy',hcd,hyl,rfl,own5,h5,d5⟩;subst hcd;obtain⟨w6,hw6⟩:=qqe (w5.alloc (.cells (bkC y').toArray 54));have hu6:Upd (fun _=>False) w5 w6:=by rw[hw6];exact(uur _ w5).alloc _
 have g6:w6.heap[w5.heap.size]?=some (.cells (bkC y').toArray 54 (0,0)):=by rw[hw6];exact zc w5 _ rfl
 have r6:=zg g6;have hsi:=zt y' hyl;have H6:=Y3 (h5.new hu6) ((H4.o.2.trans d5).trans (h5.didNew hu6)) hw6;have hwr:=HH.o.2.1 H6.o.1 (by rw[<-hy'];exact hyl);rw[<-hy']at hwr;have HW:=qqh hwr;rw[hw6]at r6;clear h5 d5 hw6 hu6 g6 hwr HRd hy';by_cases hc0:cd=0
 case' neg=>
  have q0:(cd==0)=false:=by simpa using hc0
  have hr:R=(b,cd):=by rw[HR.o,if_pos hc0]
  have HK:=Y2 hr HW;clear hc0 HW hr;go_wp2_with (first
   |(refine zk rfl _ _ _ rfl _ _ (bkC y') rfl rfl (by rw[zo,hyl];rfl) hsi (zv y') ?_)
   |fail)
  go_ret
  rw[<-H6.o.2.2,HK.o.1];exact⟨rfl,_,H6.o.1,H6.o.2.1⟩
 subst hc0;go_wp2_with (first
  |(refine zk rfl _ _ _ rfl _ _ (bkC y') rfl rfl (by rw[zo,hyl];rfl) hsi (zv y') ?_)
  |(refine qZg rfl _ _ rfl _ _ rfl _ _ r6 Tryz.underlying54 rfl hsi ?_)
  |fail)
 rw[<-H6.o.2.2];refine HW.o.mono ?_;rintro e w7 ⟨rfl,own7,h7,d7⟩;have H7:=Y2 h7 (H6.o.2.1.trans d7);have HF:=qqh (HH.o.2.2.1 h7);clear h7 d7 HW r6;by_cases hc1:c1=0
 case' neg=>
  have q0:(c1==0)=false:=by simpa using hc1
  have hr:R=(b1,c1):=by rw[HR.o,if_neg (fun h=>h rfl),if_pos hc1]
  have HK:=qqh hr;clear hc1 hr;go_wp2
  go_ret
  rw[HK.o];exact⟨rfl,own7,H7.o.1,H7.o.2⟩
 subst hc1;go_wp2_with fail
 refine HF.o.mono ?_;rintro e w8 ⟨rfl,own8,h8,d8⟩;have H8:=Y2 h8 (H7.o.2.trans d8);have HC:=qqh (HH.o.2.2.2 h8);clear h8 d8 HF;by_cases hc2:c2=0
 case' neg=>
  have q0:(c2==0)=false:=by simpa using hc2
  have hr:R=(b2,c2):=by rw[HR.o,if_neg (fun h=>h rfl),if_neg (fun h=>h rfl),if_pos hc2]
  have HK:=qqh hr;clear hc2 hr;go_wp2
  go_ret
  rw[HK.o];exact⟨rfl,own8,H8.o.1,H8.o.2⟩
 subst hc2;have hr:R=(b3,c3):=by rw[HR.o,if_neg (fun h=>h rfl),if_neg (fun h=>h rfl),if_neg (fun h=>h rfl)]
 have HK:=qqh hr;clear hr;go_wp2_with fail
 refine HC.o.mono ?_;rintro e w9 ⟨rfl,own9,h9,d9⟩;have H9:=Y2 h9 (H8.o.2.trans d9);clear h9 d9 HC;go_wp2
 go_ret
 rw[HK.o];exact⟨rfl,own9,H9.o.1,H9.o.2⟩
end
end Go.Proofs.YtfhfbpmlnjdfoaaGreatDoor
