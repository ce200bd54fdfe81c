/- A cache: write -/
import Derived.Test.YtfhfbpmlnjdfoaaGreatDoorG24
set_option maxRecDepth 100000
set_option maxHeartbeats 1000000
namespace Go.Proofs.YtfhfbpmlnjdfoaaGreatDoor
open Go Go.RowKit Tryz
def CaS.byp(n:CaN)(b:CaS)(k:Nat):CaS:=if getC b.ps (k:Int)=0 then b.kM n (k:Int)else b
def CaS.ko(n:CaN)(a:CaS)(k:Nat)(x:Bk):CaS×Int:=
 if(a.j8 n).2≠0 then((a.j8 n).1,(a.j8 n).2)
 else if(writeR (a.j8 n).1.bF (a.j8 n).1.bO (a.j8 n).1.bP k x).cd≠0 then((a.j8 n).1.kz (writeR (a.j8 n).1.bF (a.j8 n).1.bO (a.j8 n).1.bP k x),(writeR (a.j8 n).1.bF (a.j8 n).1.bO (a.j8 n).1.bP k x).cd)
 else(((a.j8 n).1.kz (writeR (a.j8 n).1.bF (a.j8 n).1.bO (a.j8 n).1.bP k x)).byp n k,0)
section
variable{own:Nat->Nat}{w w':World}{c:Nat}{n:CaN}{p:CaP}{a:CaS}{N:Nat}
theorem XF(h:CaAt own w c n p a)(hf:a.Fit N)(hN:N<=50000)(ht:a.Tie n none)(k:Nat)(hr:a.next<=a.cov+n.jo):
  Calls prog 230 #[ptr c,.int .i64 (k:Int)] w (zv own w c n p (a.byp n k) (.int .i64 0)):=by
 by_cases hg:getC a.ps (k:Int)=0
 .obtain ⟨h1,h2,-⟩:=ht.kM hg;have hkr:(k:Int)<4096:=by
   have h1:=h.pl;have h2:=h.ok.b2;obtain⟨m,hm,e,-⟩:=zX.1 hg;omega
  have:=ZU h (k:Int) hg hr jU (tt h.nx1 jU (by have:=h.ok.j1;omega) ⟨oM,hkr⟩) h1;rw[h2]at this;unfold CaS.byp;rw[if_pos hg];exact this
 .unfold CaS.byp;rw[if_neg hg];exact Xq h (k:Int) hg
theorem CaS.Fit.byp(h:a.Fit N)(h1:1<=a.next)(k:Nat):(a.byp n k).Fit (N+1):=by
 unfold CaS.byp;split
 .exact {h.left h1 (k:Int)with}
 .exact h.mono oM
theorem CaS.Fit.bw(h:a.Fit N)(k:Nat)(x:Bk):(a.kz (writeR a.bF a.bO a.bP k x)).Fit (N+1):=
 {h.mono (qXw N)with bO:=by have h1:=wS a.bF a.bO a.bP k x;have h2:=h.bO;show(writeR a.bF a.bO a.bP k x).O.length<=_;omega}
theorem CaS.Fit.ko(h:a.Fit N)(h1:1<=a.next)(k:Nat)(x:Bk):(a.ko n k x).1.Fit (N+n.pa+2):=by
 have hr:=h.j8 (n:=n);have hn:=(a.j9 n).1;have hb:=hr.bw k x;unfold CaS.ko;split
 .exact hr.mono oM
 split
 .exact hb.mono oM
 .exact (hb.byp (n:=n) ju k).mono oM
theorem CaS.Tie.byp{o:Option Nat}(h:a.Tie n o)(k:Nat):(a.byp n k).Tie n o:=by
 unfold CaS.byp;split
 .next hg=>exact(CaS.Tie.kM h hg).2.2
 .exact h
theorem CaS.Tie.ko(h:a.Tie n none)(k:Nat)(x:Bk):(a.ko n k x).1.Tie n none:=by
 have hr:=CaS.Tie.j8 h;unfold CaS.ko;split
 .exact hr
 split
 .exact hr
 .exact CaS.Tie.byp (a:=(a.j8 n).1.kz (writeR (a.j8 n).1.bF (a.j8 n).1.bO (a.j8 n).1.bP k x)) hr k
theorem vE(h:CaAt own w c n p a)(hf:a.Fit N)(hN:N+n.pa+2<=50000)(ht:a.Tie n none)(k:Nat)(hk:k<n.bl)(x:Bk)(hx:x.length=64):
  Calls prog 162 #[ptr c,.int .i64 (k:Int),.agg (bkC x).toArray] w (zv own w c n p (a.ko n k x).1 (.int .i64 (a.ko n k x).2)):=by
 obtain⟨w1,hw1⟩:=qqe (w.alloc (.cells (bkC x).toArray 54));have hu1:=qqu hw1;have hg1:=qqg hw1;obtain⟨m,hm⟩:=qqe (w.heap.size);have hm0:own m=0:=h.far _ oM;rw[<-hm]at hg1;have h1:=h.new hu1;have d1:=h.ki hu1;have HP:=qqh (vA h1 hf oM);obtain⟨R,hR⟩:=qqe (a.ko n k x);rw[<-hR];unfold CaS.ko at hR;have hfr:=hf.j8 (n:=n);have htr:=CaS.Tie.j8 ht;have hnn:=(a.j9 n).1;have hnx:=h.nx1;have hrm:=fun h=>CaS.kC (a:=a) (n:=n) h hnx (show 4<=n.jo by have:=h1.ok.j1;omega);generalize a.j8 n=r at*;obtain⟨b,cd⟩:=r;simp only at HP hR hfr htr hnn hrm;have H:=Y9 hm0 d1 hg1 hx hR hfr htr hrm hk;have HM:=qqh hm;have HW1:=qqh hw1;have hut:=underlying54;have hsi:=zw x hx;clear h hf hx hu1 hg1 h1 hm0 hm hw1 d1 hR hfr htr hnn hrm hnx ht hk;go_enter func162,ntmps162
 go_wp2_with fail
 rw[<-HW1.o,<-HM.o];refine HP.o.mono ?_;rintro e w2 ⟨rfl,own2,h2,hd2⟩;obtain⟨hm0,hd1,hg1,hx,hR,hfr,htr,hrm,hk⟩:=H.o;have d2:=hd1.trans hd2;by_cases hc:cd=0
 rotate_left
 .have q0:(cd==0)=false:=by simpa using hc
  rw[if_pos hc]at hR;have HY:=Y3 h2 d2 hR;clear h2 d2 hR hd2 hd1 hm0 hg1 hx hfr htr hrm hk HP;go_wp2
  go_ret
  rw[HY.o.2.2];exact⟨rfl,own2,HY.o.1,HY.o.2.1⟩
 subst hc;rw[if_neg oe]at hR;replace hrm:=hrm oe;obtain⟨-,e0,-,-,-,-,-,-,-⟩:=h2.cells;have r2:=hd2.upd.range (zh hg1) (fun h=>h.1 hm0);have hm2:own2 m=0:=(hd2.old m (zf hg1)).trans hm0;have hu2:=(uur (fun _=>False) w2).drew;have HWr:=qqh (xO (h2.new hu2) k (by rw[h2.gl];exact hk) x hx (by have:=hfr.bO;omega));have hfb:=hfr.bw k x;generalize hrr:writeR b.bF b.bO b.bP k x=r at*;have HD:=Y6 hm2 hR hfb htr hrm (d2.trans (h2.ki hu2));clear hm0 hd1 hg1 hx h2 hd2 hm2 HP d2 hR hfr htr hrm hk hu2 hrr;go_upto_region 4 with fail
 refine qZj (S:=fun W=>W.cell? ⟨c,15,none⟩=some (ptr p.back)/\W.rangeAt m 0 (bkC x)) kR (by(simp only[qYo,qYq]);exact⟨e0,r2⟩) (fun hHeld=>?_);refine Wl.i [0,1,2,3,4] ?_;iterate 5 refine Wl.t hHeld ?_
 refine Wl.o ?_;refine Wl.l 5 (fun w h=>h.2) hut hsi hHeld ?_;refine Wl.r 6 (fun K hK=>?_);go_simp
 refine HWr.out.mono ?_;rintro e w3 ⟨rfl,own3,h3,hd3⟩;obtain⟨-,i0,-,-,-,-,-,-,-⟩:=h3.cells;have r3:=hd3.upd.range (show w2.drew.rangeAt m 0 (bkC x) by rw[qYq];exact r2) (fun h=>h.1 HD.o.1);have H3:=Y2 h3 (HD.o.2.2.2.2.2.trans hd3);clear h3 hd3;refine hK.o _ _ (⟨i0,r3⟩) (fun hH1=>?_);clear hK K;refine Wl.r 7 (fun K hK=>?_);go_simp
 refine hK.o _ _ (hH1) (fun hH2=>?_);clear hK K;refine Wl.d ?_;clear hHeld hH1 hH2 i0 r3 r2 e0 HWr;have hR:=HD.o.2.1;obtain⟨rcd,hrcd⟩:=qqe (r.cd);rw[<-hrcd]at hR⊢;by_cases hc:rcd=0
 rotate_left
 .have q0:(rcd==0)=false:=by simpa using hc
  rw[if_pos hc]at hR;have HY:=qqh hR;clear hR hrcd;go_wp2
  go_ret
  rw[HY.o];exact⟨rfl,own3,H3.o.1,H3.o.2⟩
 subst hc;rw[if_neg oe]at hR;have HQ:=qqh (zv.from H3.o.2 (XF H3.o.1 HD.o.2.2.1 oM HD.o.2.2.2.1 k (by have:=HD.o.2.2.2.2.1;show b.next<=b.cov+n.jo;omega)));have HY:=qqh hR;clear hR hrcd;go_wp2_with fail
 refine HQ.o.mono ?_;rintro e w4 ⟨rfl,own4,h4,hd4⟩;have H4:=Y2 h4 hd4;clear h4 hd4 HQ;go_wp2
 go_ret
 rw[HY.o];exact⟨rfl,own4,H4.o.1,H4.o.2⟩
end
structure CaS.Jg(n:CaN)(a:CaS):Prop where
 wl:a.W.length+a.cov+1<=a.next
 room:a.next<=a.cov+n.jo+1
theorem CaAt.jg{own:Nat->Nat}{w:World}{c:Nat}{n:CaN}{p:CaP}{a:CaS}(h:CaAt own w c n p a):a.Jg n:=⟨h.jr.good.wl,h.jr.good.room⟩
section
variable{n:CaN}{a:CaS}{N:Nat}
theorem CaS.Jg.len(h:a.Jg n):a.W.length<=n.jo:=by have:=h.wl;have:=h.room;omega
theorem CaS.Jg.ckpt(h:a.Jg n):(a.ckpt n).1.Jg n:=by
 have h1:=h.wl;have h2:=h.room;unfold CaS.ckpt;split
 .exact ⟨h1,h2⟩
 split
 .exact ⟨h1,h2⟩
 split
 .exact ⟨h1,h2⟩
 .exact ⟨by show 0+(a.next-1)+1<=a.next;omega,by show a.next<=(a.next-1)+n.jo+1;omega⟩
theorem CaS.Jg.j8(h:a.Jg n):(a.j8 n).1.Jg n:=by
 unfold CaS.j8;split
 .exact h
 .exact h.ckpt
theorem CaS.Jg.left(h:a.Jg n)(hr:a.next<=a.cov+n.jo)(k:Int):(a.left n k).Jg n:=by
 have h1:=h.wl;exact⟨by show(a.W++_).length+a.cov+1<=a.next+1;rw[qzd];simp;omega,by show a.next+1<=a.cov+n.jo+1;omega⟩
theorem CaS.Jg.kq{n:CaN}(hj:4<=n.jo):∀(m g:Nat) {a:CaS},a.Jg n->1<=a.next->(CaS.kq n m g a).1.Jg n
 |0,g,a,h,_=>h
 |m+1,g,a,h,h1=>by
  have hr:=h.j8;have hn:=(a.j9 n).1;simp only[CaS.kq];split
  .exact h
  split
  .exact hr
  split
  .exact ⟨hr.wl,hr.room⟩
  .next hc _=>
   have hrm:=CaS.kC (qxq hc) h1 hj;have hl:(((a.j8 n).1.ev n).left n ((a.j8 n).1.evK n)).Jg n:=CaS.Jg.left (a:=(a.j8 n).1.ev n) ⟨hr.wl,hr.room⟩ jh _;split
   .exact hl
   .exact CaS.Jg.kq hj m (g+1) hl (by show 1<=(a.j8 n).1.next+1;omega)
theorem CaS.Fit.takes'(h:a.Fit N)(hg:a.Jg n)(h1:1<=a.next)(hj:4<=n.jo):(a.kj n).1.Fit (N+2*n.pa+n.jo+1):=
 h.kj h1 (fun b hb=>by
  rcases hb with rfl|rfl
  .exact hg.len
  .exact (CaS.Jg.kq (a:=a.al) hj 1 0 ⟨hg.wl,hg.room⟩ h1).len)
theorem CaS.Fit.kp(h:a.Fit N)(s:Nat)(blk:Int)(x:Bk):(a.kp n s blk x).1.Fit (N+1):=by
 have h1:=wS a.dF a.dO a.dP (n.ku+s) x;have h2:=h.dO;unfold CaS.kp;split
 .exact {h.mono (qXw N)with dO:=by show(writeR a.dF a.dO a.dP (n.ku+s) x).O.length<=_;omega}
 .exact {h.mono (qXw N)with dO:=by show(writeR a.dF a.dO a.dP (n.ku+s) x).O.length<=_;omega}
theorem CaS.Fit.kw(h:a.Fit N)(h1:1<=a.next)(k:Int)(s sum:Nat)(d:Bool)(hs:sum<=4294967295):(a.kw n k s sum d).1.Fit (N+1):=by
 have hsm:∀x v,upd1 a.sums k (some sum) x=some v->v<=4294967295:=fun x v hv=>by
  simp only[upd1]at hv;split at hv
  .cases hv;exact hs
  .exact h.sm x v hv
 have hw1:∀q∈a.W++[(a.next,sectR (jaddX a.next n.jo 0 k s d sum))],1<=q.1:=fun q hq=>by
  rcases qzq.1 hq with hq|hq
  .exact h.w1 q hq
  .simp at hq;subst hq;exact h1
 have e1:=h.nx;have e2:=h.iN;have e3:=h.mN;have e4:=h.kN;unfold CaS.kw;split
 .exact {h.mono (qXw N)with sm:=hsm,w1:=hw1,nx:=by(show a.next+1<=N+1;omega),iN:=by(show a.iN+1<=N+1;omega),mN:=by(show a.mN+1<=N+1;omega),kN:=by(show a.kN+1<=N+1;omega)}
 .exact {h.mono (qXw N)with sm:=hsm,w1:=hw1,nx:=by(show a.next+1<=N+1;omega),iN:=by(show a.iN+1<=N+1;omega),mN:=by(show a.mN+1<=N+1;omega),kN:=by(show a.kN+1<=N+1;omega)}
end
def CaS.backS(n:CaN)(b:CaS)(k:Nat)(s:Nat)(x:Bk):CaS×Int:=
 if(b.kp n s k x).2≠0 then((b.kp n s k x).1,(b.kp n s k x).2)else(((b.kp n s k x).1.kw n k s (crcC x) true).1,0)
def CaS.kD(n:CaN)(a:CaS)(k:Nat)(x:Bk):CaS×Int:=
 if(a.kj n).2.2.2≠0 then((a.kj n).1,(a.kj n).2.2.2)
 else if(a.kj n).2.2.1=false then(a.kj n).1.ko n k x else(a.kj n).1.backS n k (a.kj n).2.1.toNat x
section
variable{own:Nat->Nat}{w w':World}{c:Nat}{n:CaN}{p:CaP}{a:CaS}{N:Nat}
theorem yL(n:CaN)(a:CaS)(s:Nat)(blk:Int)(x:Bk):(a.kp n s blk x).1.next=a.next/\(a.kp n s blk x).1.cov=a.cov:=by
 unfold CaS.kp;split<;>exact⟨rfl,rfl⟩
theorem Ev(h:CaAt own w c n p a)(hf:a.Fit N)(hN:N+3*n.pa+n.jo+4<=50000)(ht:a.Tie n none)(k:Nat)(hk:k<n.bl)(x:Bk)(hx:x.length=64):
  Calls prog 228 #[ptr c,.int .i64 (k:Int),.agg (bkC x).toArray] w (zv own w c n p (a.kD n k x).1 (.int .i64 (a.kD n k x).2)):=by
 obtain⟨w1,hw1⟩:=qqe (w.alloc (.cells (bkC x).toArray 54));have hu1:=qqu hw1;have hg1:=qqg hw1;obtain⟨m,hm⟩:=qqe (w.heap.size);have hm0:own m=0:=h.far _ oM;rw[<-hm]at hg1;have h1:=h.new hu1;have d1:=h.ki hu1;have HP:=qqh (Ul h1 hf oM);obtain⟨R,hR⟩:=qqe (a.kD n k x);rw[<-hR];unfold CaS.kD at hR;have hjo:=h.ok.j1;have hft:=hf.takes' h.jg h.nx1 hjo;have htk:=CaS.Tie.kj ht h.nx1 hjo;generalize a.kj n=r at*;obtain⟨b,sv,okb,cd⟩:=r;simp only at HP hR hft;have H:=Y9 hm0 d1 hg1 hx hR hft htk hk hN;have HM:=qqh hm;have HW1:=qqh hw1;have hut:=underlying54;have hsi:=zw x hx;clear h hf hx hu1 hg1 h1 hm0 hm hw1 d1 hR hft htk ht hk hN;go_enter func228,ntmps228
 go_wp2_with fail
 rw[<-HW1.o,<-HM.o];refine HP.o.mono ?_;rintro e w2 ⟨rfl,own2,h2,hd2⟩;obtain⟨hm0,hd1,hg1,hx,hR,hft,htk,hk,hN⟩:=H.o;have d2:=hd1.trans hd2;have r2:=hd2.upd.range (zh hg1) (fun h=>h.1 hm0);have hm2:own2 m=0:=(hd2.old m (zf hg1)).trans hm0;clear hm0 hd1 hg1 hd2 HP;by_cases hc:cd=0
 rotate_left
 .have q0:(cd==0)=false:=by simpa using hc
  rw[if_pos hc]at hR;have HY:=Y3 h2 d2 hR;clear h2 d2 hR hx hft htk hk r2 hm2 hN;go_wp2
  go_ret
  rw[HY.o.2.2];exact⟨rfl,own2,HY.o.1,HY.o.2.1⟩
 subst hc;rw[if_neg oe]at hR;rcases htk with⟨hok,-,hrm,s,hs,htie⟩|⟨hok,htie⟩
 rotate_left
 .simp only at hok htie;subst hok;rw[if_pos rfl]at hR;have HB:=qqh (zv.from d2 (vE h2 hft oM htie k hk x hx));have HY:=qqh hR;clear h2 d2 hR hx hft htie hk hm2 hN;go_wp2_with (first
   |(refine qZg rfl _ _ rfl _ _ rfl _ _ r2 hut rfl hsi ?_)
   |fail)
  rw[<-HY.o]at HB;refine HB.o.mono ?_;rintro e w3 ⟨rfl,own3,h3,d3⟩;have H3:=Y2 h3 d3;clear h3 d3 HB r2;go_wp2
  go_ret
  exact⟨rfl,own3,H3.o.1,H3.o.2⟩
 simp only at hok hs htie hrm;subst hok hs;rw[if_neg de,qxu]at hR;unfold CaS.backS at hR;have hsl:=htie.olt s rfl;have HF:=qqh (Uh h2 s hsl (k:Int) (.inr ⟨oM,oM⟩) x hx (by have:=hft.dO;omega));have hff:=hft.kp (n:=n) s (k:Int) x;have htf:=CaS.Tie.kp htie (k:Int) x;have hnf:=yL n b s (k:Int) x;generalize CaS.kp n b s (k:Int) x=r at*;obtain⟨b2,cd2⟩:=r;simp only at HF hR hff htf hnf;have H2:=Y12 d2 hm2 hR hff htf hnf hrm hk hx h2.nx1 h2.ok hN;clear h2 d2 hm2 hR hff htf hnf hrm hk hx htie hft hsl hN;go_wp2_with (first
  |(refine qZg rfl _ _ rfl _ _ rfl _ _ r2 hut rfl hsi ?_)
  |fail)
 refine HF.o.mono ?_;rintro e w3 ⟨rfl,own3,h3,hd3⟩;obtain⟨d2,hm2,hR,hff,htf,hnf,hrm,hk,hx,hnx,hok,hN⟩:=H2.o;have d3:=d2.trans hd3;have r3:=hd3.upd.range r2 (fun h=>h.1 hm2);have hm3:own3 m=0:=(hd3.old m (qYn w2 _ (r2 0 _ oL))).trans hm2;clear r2 d2 hm2 hd3 HF;rcases htf with⟨hc,htf⟩|⟨hc,htf⟩
 rotate_left
 .have q0:(cd2==0)=false:=by simpa using hc
  rw[if_pos hc]at hR;have HY:=Y3 h3 d3 hR;clear h3 d3 hR hff htf hnf hrm hk hx hnx hok hN;go_wp2
  go_ret
  rw[HY.o.2.2];exact⟨rfl,own3,HY.o.1,HY.o.2.1⟩
 subst hc;rw[if_neg oe]at hR;obtain⟨w4,hw4⟩:=qqe (w3.alloc (.cells #[.slice (some ⟨m,0,none⟩) 64 64] 205));have hu4:=qqu hw4;have h4:=h3.new hu4;have r4:=hu4.range r3 id;have g4:=qqg hw4;have HS:=qqh (un (cl:=1) x h4.nib (za g4 0) r4 hx oM oM);have hput:=CaS.Tie.put htf hk (crcC x) true;have hle:=hff.nx;have hso:=htf.olt s rfl;have hcl:=vq x;have HQ:Hid (∀own5 w5,CaAt own5 w5 c n p b2->Calls prog 297 #[ptr c,.int .i64 (k:Int),.int .i64 (s:Int),.int .i64 (crcC x:Int),.bool true] w5 (zv own5 w5 c n p (b2.kw n (k:Int) s (crcC x) true).1 (.int .i64 0))):=by
  intro own5 w5 h5;have hmx:maxLen>=60000:=by simp only[maxLen];omega
  have:=Ui h5 (k:Int) s (crcC x) true (by rw[hnf.1,hnf.2];omega) oM (vh true h5.nx1 oM oP ⟨oM,by have:=hok.b2;omega⟩ (by have:=hok.s2;omega) oM) hput.1 (by have:=hff.iN;omega) oM (by have:=hff.mN;omega) (by have:=hff.kN;omega);rw[hput.2.1]at this;exact this
 have HY:=Y4 h4 (d3.trans (h3.ki hu4)) hR hw4;clear h3 d3 hR hff htf hnf hrm hk hx hnx hok hN hu4 h4 r4 g4 hput hle hso hcl hw4 r3;go_wp2_with fail
 rw[<-HY.o.2.2.2];refine HS.o.mono ?_;rintro e w5 ⟨rfl,hb5⟩;have hu5:=qqb hb5;have HZ:=qqh (zv.from (HY.o.2.1.trans (HY.o.1.ki hu5)) (HQ.o _ _ (HY.o.1.new hu5)));have HR:=qqh HY.o.2.2.1;clear hu5 hb5 HS HQ HY;go_wp2_with fail
 refine HZ.o.mono ?_;rintro e w6 ⟨rfl,own6,h6,d6⟩;have H6:=Y2 h6 d6;clear h6 d6 HZ;go_wp2
 go_ret
 rw[HR.o];exact⟨rfl,own6,H6.o.1,H6.o.2⟩
end
def CaS.thruF(n:CaN)(b:CaS)(k:Nat)(s:Nat)(x:Bk):CaS×Int:=
 if(b.kp n s k x).2≠0 then((b.kp n s k x).1.byp n k,0)else(((b.kp n s k x).1.kw n k s (crcC x) false).1,0)
def CaS.thruS(n:CaN)(b:CaS)(k:Nat)(s:Nat)(x:Bk):CaS×Int:=
 if(writeR b.bF b.bO b.bP k x).cd≠0 then({b.kz (writeR b.bF b.bO b.bP k x)with st:=turnList b.st (s:Int) 3},(writeR b.bF b.bO b.bP k x).cd)
 else(b.kz (writeR b.bF b.bO b.bP k x)).thruF n k s x
def CaS.thru(n:CaN)(a:CaS)(k:Nat)(x:Bk):CaS×Int:=
 if(a.kj n).2.2.2≠0 then((a.kj n).1,(a.kj n).2.2.2)
 else if(a.kj n).2.2.1=false then(a.kj n).1.ko n k x else(a.kj n).1.thruS n k (a.kj n).2.1.toNat x
section
variable{own:Nat->Nat}{w w':World}{c:Nat}{n:CaN}{p:CaP}{a:CaS}{N:Nat}
theorem Ew(h:CaAt own w c n p a)(hf:a.Fit N)(hN:N+3*n.pa+n.jo+6<=50000)(ht:a.Tie n none)(k:Nat)(hk:k<n.bl)(x:Bk)(hx:x.length=64):
  Calls prog 229 #[ptr c,.int .i64 (k:Int),.agg (bkC x).toArray] w (zv own w c n p (a.thru n k x).1 (.int .i64 (a.thru n k x).2)):=by
 obtain⟨w1,hw1⟩:=qqe (w.alloc (.cells (bkC x).toArray 54));have hu1:=qqu hw1;have hg1:=qqg hw1;obtain⟨m,hm⟩:=qqe (w.heap.size);have hm0:own m=0:=h.far _ oM;rw[<-hm]at hg1;have h1:=h.new hu1;have d1:=h.ki hu1;have HP:=qqh (Ul h1 hf oM);obtain⟨R,hR⟩:=qqe (a.thru n k x);rw[<-hR];unfold CaS.thru at hR;have hjo:=h.ok.j1;have hft:=hf.takes' h.jg h.nx1 hjo;have htk:=CaS.Tie.kj ht h.nx1 hjo;generalize a.kj n=r at*;obtain⟨b,sv,okb,cd⟩:=r;simp only at HP hR hft;have H:=Y9 hm0 d1 hg1 hx hR hft htk hk hN;have HM:=qqh hm;have HW1:=qqh hw1;have hut:=underlying54;have hsi:=zw x hx;clear h hf hx hu1 hg1 h1 hm0 hm hw1 d1 hR hft htk ht hk hN;go_enter func229,ntmps229
 go_wp2_with fail
 rw[<-HW1.o,<-HM.o];refine HP.o.mono ?_;rintro e w2 ⟨rfl,own2,h2,hd2⟩;obtain⟨hm0,hd1,hg1,hx,hR,hft,htk,hk,hN⟩:=H.o;have d2:=hd1.trans hd2;have r2:=hd2.upd.range (zh hg1) (fun h=>h.1 hm0);have hm2:own2 m=0:=(hd2.old m (zf hg1)).trans hm0;clear hm0 hd1 hg1 hd2 HP;by_cases hc:cd=0
 rotate_left
 .have q0:(cd==0)=false:=by simpa using hc
  rw[if_pos hc]at hR;have HY:=Y3 h2 d2 hR;clear h2 d2 hR hx hft htk hk r2 hm2 hN;go_wp2
  go_ret
  rw[HY.o.2.2];exact⟨rfl,own2,HY.o.1,HY.o.2.1⟩
 subst hc;rw[if_neg oe]at hR;rcases htk with⟨hok,-,hrm,s,hs,htie⟩|⟨hok,htie⟩
 rotate_left
 .simp only at hok htie;subst hok;rw[if_pos rfl]at hR;have HB:=qqh (zv.from d2 (vE h2 hft oM htie k hk x hx));have HY:=qqh hR;clear h2 d2 hR hx hft htie hk hm2 hN;go_wp2_with (first
   |(refine qZg rfl _ _ rfl _ _ rfl _ _ r2 hut rfl hsi ?_)
   |fail)
  rw[<-HY.o]at HB;refine HB.o.mono ?_;rintro e w3 ⟨rfl,own3,h3,d3⟩;have H3:=Y2 h3 d3;clear h3 d3 HB r2;go_wp2
  go_ret
  exact⟨rfl,own3,H3.o.1,H3.o.2⟩
 simp only at hok hs htie hrm;subst hok hs;rw[if_neg de,qxu]at hR;unfold CaS.thruS at hR;have hsl:=htie.olt s rfl;obtain⟨-,e0,-,-,-,-,-,-,-⟩:=h2.cells;have hu2:=(uur (fun _=>False) w2).drew;have HWr:=qqh (xO (h2.new hu2) k (by rw[h2.gl];exact hk) x hx (by have:=hft.bO;omega));have hfb:=hft.bw k x;generalize hrr:writeR b.bF b.bO b.bP k x=r at*;have H2:=Y11 (d2.trans (h2.ki hu2)) hm2 hR hfb htie hrm hk hx h2.nx1 h2.ok hN;clear h2 d2 hm2 hR hfb htie hrm hk hx hft hsl hN hrr hu2;go_upto_region 6 with fail
 refine qZj (S:=fun W=>W.cell? ⟨c,15,none⟩=some (ptr p.back)/\W.rangeAt m 0 (bkC x)) kR (by(simp only[qYo,qYq]);exact⟨e0,r2⟩) (fun hHeld=>?_);refine Wl.i [0,1,2,3,4] ?_;iterate 5 refine Wl.t hHeld ?_
 refine Wl.o ?_;refine Wl.l 5 (fun w h=>h.2) hut hsi hHeld ?_;refine Wl.r 6 (fun K hK=>?_);go_simp
 refine HWr.out.mono ?_;rintro e w3 ⟨rfl,own3,h3,hd3⟩;obtain⟨-,i0,-,-,-,-,-,-,-⟩:=h3.cells;have r3:=hd3.upd.range (show w2.drew.rangeAt m 0 (bkC x) by rw[qYq];exact r2) (fun h=>h.1 H2.o.2.1);have hm3:own3 m=0:=(hd3.old m (qYn w2 _ (r2 0 _ (by rw[qyn (by rw[zo,H2.o.2.2.2.2.2.2.2.1];omega)])))).trans H2.o.2.1;have H3:=Y3 h3 (H2.o.1.trans hd3) hm3;clear h3 hd3 hm3;refine hK.o _ _ (⟨i0,r3⟩) (fun hH1=>?_);clear hK K;refine Wl.r 7 (fun K hK=>?_);go_simp
 refine hK.o _ _ (hH1) (fun hH2=>?_);clear hK K;refine Wl.d ?_;clear hHeld hH1 hH2 i0 r2 e0 HWr;obtain⟨-,-,hR,hfb,htie,hrm,hk,hx,hnx,hok,hN⟩:=H2.o;obtain⟨h3,d3,hm3⟩:=H3.o;obtain⟨rcd,hrcd⟩:=qqe (r.cd);rw[<-hrcd]at hR⊢;clear H2 H3;by_cases hc:rcd=0
 rotate_left
 .have q0:(rcd==0)=false:=by simpa using hc
  rw[if_pos hc]at hR;have HT:=qqh (zv.from d3 (xg h3 (s:Int) 3));obtain⟨-,-,-,-,-,cS,-,-,-⟩:=h3.cells;have HY:=qqh hR;clear h3 d3 hm3 hR hfb htie hrm hk hx hnx hok hN r3 hrcd;go_wp2_with fail
  refine HT.o.mono ?_;rintro e w4 ⟨rfl,own4,h4,d4⟩;have H4:=Y2 h4 d4;clear h4 d4 HT cS;go_wp2
  go_ret
  rw[HY.o];exact⟨rfl,own4,H4.o.1,H4.o.2⟩
 subst hc;rw[if_neg oe]at hR;replace htie:(b.kz r).Tie n (some s):=htie;replace hrm:(b.kz r).next+1<=(b.kz r).cov+n.jo:=hrm;replace hnx:1<=(b.kz r).next:=hnx;generalize hbb:b.kz r=bb at*;unfold CaS.thruF at hR;have hsl:=htie.olt s rfl;have HF:=qqh (Uh h3 s hsl (k:Int) (.inr ⟨oM,oM⟩) x hx (by have:=hfb.dO;omega));have hff:=hfb.kp (n:=n) s (k:Int) x;have htf:=CaS.Tie.kp htie (k:Int) x;have hnf:=yL n bb s (k:Int) x;generalize CaS.kp n bb s (k:Int) x=r at*;obtain⟨b2,cd2⟩:=r;simp only at HF hR hff htf hnf;have H2:=Y12 d3 hm3 hR hff htf hnf hrm hk hx hnx hok hN;clear h3 d3 hm3 hR hff htf hnf hrm hk hx htie hfb hsl hN hnx hok hrcd hbb;go_wp2_with (first
  |(refine qZg rfl _ _ rfl _ _ rfl _ _ r3 hut rfl hsi ?_)
  |fail)
 refine HF.o.mono ?_;rintro e w4 ⟨rfl,own4,h4,hd4⟩;obtain⟨d3,hm3,hR,hff,htf,hnf,hrm,hk,hx,hnx,hok,hN⟩:=H2.o;have d4:=d3.trans hd4;have r4:=hd4.upd.range r3 (fun h=>h.1 hm3);have hm4:own4 m=0:=(hd4.old m (qYn w3 _ (r3 0 _ oL))).trans hm3;clear r3 d3 hm3 hd4 HF;rcases htf with⟨hc,htf⟩|⟨hc,htf⟩
 rotate_left
 .have q0:(cd2==0)=false:=by simpa using hc
  rw[if_pos hc]at hR;have HD:=qqh (zv.from d4 (XF h4 hff oM htf k (by rw[hnf.1,hnf.2];omega)));have HY:=qqh hR;clear h4 d4 hR hff htf hnf hrm hk hx hnx hok hN r4 hm4 H2;go_wp2_with fail
  refine HD.o.mono ?_;rintro e w5 ⟨rfl,own5,h5,d5⟩;have H5:=Y2 h5 d5;clear h5 d5 HD;go_wp2
  go_ret
  rw[HY.o];exact⟨rfl,own5,H5.o.1,H5.o.2⟩
 subst hc;rw[if_neg oe]at hR;obtain⟨w5,hw5⟩:=qqe (w4.alloc (.cells #[.slice (some ⟨m,0,none⟩) 64 64] 205));have hu5:=qqu hw5;have h5:=h4.new hu5;have r5:=hu5.range r4 id;have g5:=qqg hw5;have HS:=qqh (un (cl:=1) x h5.nib (za g5 0) r5 hx oM oM);have hput:=CaS.Tie.put htf hk (crcC x) false;have hle:=hff.nx;have hso:=htf.olt s rfl;have hcl:=vq x;have HQ:Hid (∀own6 w6,CaAt own6 w6 c n p b2->Calls prog 297 #[ptr c,.int .i64 (k:Int),.int .i64 (s:Int),.int .i64 (crcC x:Int),.bool false] w6 (zv own6 w6 c n p (b2.kw n (k:Int) s (crcC x) false).1 (.int .i64 0))):=by
  intro own6 w6 h6;have hmx:maxLen>=60000:=by simp only[maxLen];omega
  have:=Ui h6 (k:Int) s (crcC x) false (by rw[hnf.1,hnf.2];omega) oM (vh false h6.nx1 oM oP ⟨oM,by have:=hok.b2;omega⟩ (by have:=hok.s2;omega) oM) hput.1 (by have:=hff.iN;omega) oM (by have:=hff.mN;omega) (by have:=hff.kN;omega);rw[hput.2.1]at this;exact this
 have HY:=Y4 h5 (d4.trans (h4.ki hu5)) hR hw5;clear h4 d4 hR hff htf hnf hrm hk hx hnx hok hN hu5 h5 r5 g5 hput hle hso hcl hw5 r4;go_wp2_with fail
 rw[<-HY.o.2.2.2];refine HS.o.mono ?_;rintro e w6 ⟨rfl,hb6⟩;have hu6:=qqb hb6;have HZ:=qqh (zv.from (HY.o.2.1.trans (HY.o.1.ki hu6)) (HQ.o _ _ (HY.o.1.new hu6)));have HR:=qqh HY.o.2.2.1;clear hu6 hb6 HS HQ HY;go_wp2_with fail
 refine HZ.o.mono ?_;rintro e w7 ⟨rfl,own7,h7,d7⟩;have H7:=Y2 h7 d7;clear h7 d7 HZ;go_wp2
 go_ret
 rw[HR.o];exact⟨rfl,own7,H7.o.1,H7.o.2⟩
end
def CaS.kF(n:CaN)(a:CaS)(k:Int)(x:Bk)(md:Int):CaS×Int:=
 if k<0\/(n.bl:Int)<=k then(a,10)else if md<0\/3<=md then(a,1)else if md=0 then a.kD n k.toNat x else if md=1 then a.thru n k.toNat x else a.ko n k.toNat x
def CaS.gone(n:CaN)(a:CaS)(k:Int):CaS×Int:=if k<0\/(n.bl:Int)<=k then(a,10)else a.ko n k.toNat zB
section
variable{own:Nat->Nat}{w w':World}{c:Nat}{n:CaN}{p:CaP}{a:CaS}{N:Nat}
theorem XG(h:CaAt own w c n p a)(k:Int):Calls prog 160 #[ptr c,.int .i64 k] w fun e w'=>e=.returned (.bool (decide (0<=k)&&decide (k<(n.bl:Int))))/\w'=w:=by
 have s1:=h.sup.2.1;clear h;by_cases h0:0<=k
 .have q0:decide (0<=k)=true:=by simpa using h0
  go_enter func160,ntmps160
  go_wp2
  go_ret
  exact⟨by simp[h0],rfl⟩
 .have q0:decide (0<=k)=false:=by simpa using h0
  go_enter func160,ntmps160
  go_wp2
  go_ret
  exact⟨oe,rfl⟩
abbrev fnV(f:Nat):Value:=.func (.func f) #[] #[]
theorem Sb(w:World):Calls prog 161 #[] w fun e w'=>e=.returned (.agg #[fnV 228,fnV 229,fnV 162])/\Below w.heap.size w w':=by
 go_enter func161,ntmps161
 go_wp2
 have hr:=zh (zc w (.cells [fnV 228,fnV 229,fnV 162].toArray 269) rfl);exact qYw (zI rfl _ _ w.heap.size 0 _ _ rfl hr underlying269 rfl kR) rfl ⟨rfl,(qxl _ _).alloc (qXv _) _⟩
theorem Sc(h:CaAt own w c n p a)(hf:a.Fit N)(hN:N+3*n.pa+n.jo+6<=50000)(ht:a.Tie n none)(k:Int)(x:Bk)(hx:x.length=64)(md:Int):
  Calls prog 85 #[ptr c,.int .i64 k,.agg (bkC x).toArray,.int .i64 md] w (zv own w c n p (a.kF n k x md).1 (.int .i64 (a.kF n k x md).2)):=by
 obtain⟨w1,hw1⟩:=qqe (w.alloc (.cells (bkC x).toArray 54));have hu1:=qqu hw1;have hg1:=qqg hw1;obtain⟨m,hm⟩:=qqe (w.heap.size);have hm0:own m=0:=h.far _ oM;rw[<-hm]at hg1;have h1:=h.new hu1;have d1:=h.ki hu1;have HT:=qqh (XG h1 k);obtain⟨R,hR⟩:=qqe (a.kF n k x md);rw[<-hR];unfold CaS.kF at hR;have HM:=qqh hm;have HM0:=qqh hm0;have HW1:=qqh hw1;have hut:=underlying54;have hsi:=zw x hx;have H:=Y8 h1 d1 hg1 hR hf hN ht hx;clear h hf hN ht hx hu1 hg1 hm0 h1 d1 hR hm hw1;obtain⟨tb,htb⟩:=qqe ((decide (0<=k)&&decide (k<(n.bl:Int))));rw[<-htb]at HT;cases tb with
 |false=>
  replace htb:=qqh htb;go_enter func85,ntmps85
  go_wp2_with fail
  rw[<-HW1.o];refine HT.o.mono ?_;rintro e w2 ⟨rfl,hw2⟩;subst hw2;have hR:=H.o.2.2.2.1;rw[if_pos (by have:=htb.out;simp at this;omega)]at hR;have HY:=qqh hR;clear hR HT htb;go_wp2
  go_ret
  rw[HY.o];exact⟨rfl,own,H.o.1,H.o.2.1⟩
 |true=>
  have hkr:0<=k/\k<(n.bl:Int):=by simpa using htb.symm
  have hR:=H.o.2.2.2.1;rw[if_neg oM]at hR;have HK:=qqh hkr;clear htb hkr;replace hR:=qqh hR;go_enter func85,ntmps85
  go_wp2_with fail
  rw[<-HW1.o];refine HT.o.mono ?_;rintro e w2 ⟨rfl,hw2⟩;subst hw2;clear HT;go_wp2_with fail
  refine(Sb w2).mono ?_;rintro e w3 ⟨rfl,hb3⟩;obtain⟨h1,d1,hg1,-,hf,hN,ht,hx⟩:=H.o;have hu3:=qqb hb3;obtain⟨w4,hw4⟩:=qqe (w3.alloc (.cells #[fnV 228,fnV 229,fnV 162] 269));have hu4:=qqu hw4;have g4:=qqg hw4;have hu:=hu3.trans hu4;have h4:=h1.new hu;have d4:=d1.trans (h1.ki hu);have r4:=hu.range (zh hg1) id;have hud:=(uur (fun _=>False) w4).drew;obtain⟨tb,htb⟩:=qqe (w3.heap.size);rw[<-htb]at g4;have f0:=za g4 0;have f1:=za g4 1;have f2:=za g4 2;simp at f0 f1 f2;have H4:=Y2 (h4.new hud) (d4.trans (h4.ki hud));have H4u:=Y2 h4 d4;have HO:=Y2 (h1.far tb (by have:=hu3.size;omega)) HM0.o;have HF:=Y6 hf hN ht hx hw4 htb;clear h1 d1 hg1 hf hN ht hx hb3 hu3 hu4 g4 hu h4 d4 hud H hw4 htb;by_cases q0:md<0
  .have hR':=hR.out;rw[if_pos oM]at hR';replace hR':=qqh hR';go_wp2
   go_ret
   rw[<-HF.o.2.2.2.2.1,hR'.out];exact⟨rfl,own,H4u.out.1,H4u.out.2⟩
  by_cases q1:3<=md
  .have hR':=hR.out;rw[if_pos oM]at hR';replace hR':=qqh hR';have q2:decide (md<0)=false:=by simpa using q0
   go_wp2
   go_ret
   rw[<-HF.o.2.2.2.2.1,hR'.out];exact⟨rfl,own,H4u.out.1,H4u.out.2⟩
  have hR':=hR.out;rw[if_neg oM]at hR';have hkn:((k.toNat:Nat):Int)=k:=Int.toNat_of_nonneg HK.o.1;have hkb:k.toNat<n.bl:=by have:=HK.o.2;omega
  rcases(show md=0\/md=1\/md=2 by omega)with rfl|rfl|rfl
  .rw [if_pos rfl]at hR';have HB:=qqh (Ev H4.o.1 HF.o.1 (by have:=HF.o.2.1;omega) HF.o.2.2.1 k.toNat hkb x HF.o.2.2.2.1);rw[hkn,<-hR']at HB;replace hkn:=qqh hkn;clear hR' hR;go_upto_region 8 with fail
   rw[<-HF.o.2.2.2.2.1,<-HF.o.2.2.2.2.2,<-HM.o];refine qZj (S:=fun W=>W.cell? ⟨tb,0,none⟩=some (fnV 228)/\W.rangeAt m 0 (bkC x)) kR (by(simp only[qYo,qYq]);exact⟨f0,r4⟩) (fun hHeld=>?_);refine Wl.i [0,1,2,3,4] ?_;iterate 5 refine Wl.t hHeld ?_
   refine Wl.o ?_;refine Wl.l 5 (fun w h=>h.2) hut hsi hHeld ?_;refine Wl.r 6 (fun K hK=>?_);go_simp
   refine HB.o.mono ?_;rintro e w5 ⟨rfl,own5,h5,d5⟩;have e5:w5.cell? ⟨tb,0,none⟩=some (fnV 228)/\w5.rangeAt m 0 (bkC x):=⟨d5.upd.j4 hHeld.1 (fun h=>h.1 HO.o.1),d5.upd.range hHeld.2 (fun h=>h.1 HO.o.2)⟩
   have H5:=Y2 h5 (H4.o.2.trans d5);clear h5 d5;refine hK.o _ _ (e5) (fun hH1=>?_);clear hK K;refine Wl.r 7 (fun K hK=>?_);go_simp
   refine hK.o _ _ (hH1) (fun hH2=>?_);clear hK K;refine Wl.d ?_;go_wp2
   go_ret
   exact⟨rfl,own5,H5.o.1,H5.o.2⟩
  .rw [if_neg de,if_pos rfl]at hR';have HB:=qqh (Ew H4.o.1 HF.o.1 (by have:=HF.o.2.1;omega) HF.o.2.2.1 k.toNat hkb x HF.o.2.2.2.1);rw[hkn,<-hR']at HB;replace hkn:=qqh hkn;clear hR' hR;go_upto_region 8 with fail
   rw[<-HF.o.2.2.2.2.1,<-HF.o.2.2.2.2.2,<-HM.o];refine qZj (S:=fun W=>W.cell? ⟨tb,1,none⟩=some (fnV 229)/\W.rangeAt m 0 (bkC x)) kR (by(simp only[qYo,qYq]);exact⟨f1,r4⟩) (fun hHeld=>?_);refine Wl.i [0,1,2,3,4] ?_;iterate 5 refine Wl.t hHeld ?_
   refine Wl.o ?_;refine Wl.l 5 (fun w h=>h.2) hut hsi hHeld ?_;refine Wl.r 6 (fun K hK=>?_);go_simp
   refine HB.o.mono ?_;rintro e w5 ⟨rfl,own5,h5,d5⟩;have e5:w5.cell? ⟨tb,1,none⟩=some (fnV 229)/\w5.rangeAt m 0 (bkC x):=⟨d5.upd.j4 hHeld.1 (fun h=>h.1 HO.o.1),d5.upd.range hHeld.2 (fun h=>h.1 HO.o.2)⟩
   have H5:=Y2 h5 (H4.o.2.trans d5);clear h5 d5;refine hK.o _ _ (e5) (fun hH1=>?_);clear hK K;refine Wl.r 7 (fun K hK=>?_);go_simp
   refine hK.o _ _ (hH1) (fun hH2=>?_);clear hK K;refine Wl.d ?_;go_wp2
   go_ret
   exact⟨rfl,own5,H5.o.1,H5.o.2⟩
  .rw [if_neg de,if_neg de]at hR';have HB:=qqh (vE H4.o.1 HF.o.1 (by have:=HF.o.2.1;omega) HF.o.2.2.1 k.toNat hkb x HF.o.2.2.2.1);rw[hkn,<-hR']at HB;replace hkn:=qqh hkn;clear hR' hR;go_upto_region 8 with fail
   rw[<-HF.o.2.2.2.2.1,<-HF.o.2.2.2.2.2,<-HM.o];refine qZj (S:=fun W=>W.cell? ⟨tb,2,none⟩=some (fnV 162)/\W.rangeAt m 0 (bkC x)) kR (by(simp only[qYo,qYq]);exact⟨f2,r4⟩) (fun hHeld=>?_);refine Wl.i [0,1,2,3,4] ?_;iterate 5 refine Wl.t hHeld ?_
   refine Wl.o ?_;refine Wl.l 5 (fun w h=>h.2) hut hsi hHeld ?_;refine Wl.r 6 (fun K hK=>?_);go_simp
   refine HB.o.mono ?_;rintro e w5 ⟨rfl,own5,h5,d5⟩;have e5:w5.cell? ⟨tb,2,none⟩=some (fnV 162)/\w5.rangeAt m 0 (bkC x):=⟨d5.upd.j4 hHeld.1 (fun h=>h.1 HO.o.1),d5.upd.range hHeld.2 (fun h=>h.1 HO.o.2)⟩
   have H5:=Y2 h5 (H4.o.2.trans d5);clear h5 d5;refine hK.o _ _ (e5) (fun hH1=>?_);clear hK K;refine Wl.r 7 (fun K hK=>?_);go_simp
   refine hK.o _ _ (hH1) (fun hH2=>?_);clear hK K;refine Wl.d ?_;go_wp2
   go_ret
   exact⟨rfl,own5,H5.o.1,H5.o.2⟩
end
section
variable{own:Nat->Nat}{w w':World}{c:Nat}{n:CaN}{p:CaP}{a:CaS}{N:Nat}
theorem WY(h:CaAt own w c n p a)(hf:a.Fit N)(hN:N+n.pa+2<=50000)(ht:a.Tie n none)(k:Int):
  Calls prog 87 #[ptr c,.int .i64 k] w (zv own w c n p (a.gone n k).1 (.int .i64 (a.gone n k).2)):=by
 have HT:=qqh (XG h k);have H:=Y4 h hf hN ht;clear h hf hN ht;obtain⟨tb,htb⟩:=qqe ((decide (0<=k)&&decide (k<(n.bl:Int))));rw[<-htb]at HT;cases tb with
 |false=>
  have hk:k<0\/(n.bl:Int)<=k:=by simp at htb;omega
  have e:a.gone n k=(a,10):=by unfold CaS.gone;rw[if_pos hk]
  rw[e];clear htb hk e;go_enter func87,ntmps87
  go_wp2_with fail
  refine HT.o.mono ?_;rintro e w2 ⟨rfl,hw2⟩;subst hw2;clear HT;go_wp2
  go_ret
  exact⟨rfl,own,H.o.1,Did.refl H.o.1.far⟩
 |true=>
  have hk:0<=k/\k<(n.bl:Int):=by simpa using htb.symm
  have e:a.gone n k=a.ko n k.toNat zB:=by unfold CaS.gone;rw[if_neg oM]
  rw[e];have HB:=qqh (vE H.o.1 H.o.2.1 H.o.2.2.1 H.o.2.2.2 k.toNat oM zB rfl);rw[Int.toNat_of_nonneg hk.1]at HB;clear htb hk e;go_enter func87,ntmps87
  go_wp2_with fail
  refine HT.o.mono ?_;rintro e w2 ⟨rfl,hw2⟩;subst hw2;clear HT;go_wp2_with fail
  rw[As];refine HB.o.mono ?_;rintro e w3 ⟨rfl,own3,h3,d3⟩;have H3:=Y2 h3 d3;clear h3 d3 HB;generalize (bkC zB).toArray=Z at*;go_wp2
  go_ret
  exact⟨rfl,own3,H3.o.1,H3.o.2⟩
theorem TH(h:CaAt own w c n p a)(st:Int):Calls prog 26 #[ptr c,.int .i64 st] w (zv own w c n p a (.int .i64 (pos a.st st).length)):=by
 have HC:=qqh (uI h st);obtain⟨-,-,-,-,-,cS,-,-,-⟩:=h.cells;clear h;go_enter func26,ntmps26
 go_wp2_with fail
 refine HC.o.mono ?_;rintro e w3 ⟨rfl,own3,h3,d3⟩;have H3:=Y2 h3 d3;clear h3 d3 HC cS;go_wp2
 go_ret
 exact⟨rfl,own3,H3.o.1,H3.o.2⟩
theorem WZ(h:CaAt own w c n p a):Calls prog 91 #[ptr c] w (zv own w c n p a (.tuple #[ptr p.ssd,ptr p.back])):=by
 obtain⟨c0,c1,-,-,-,-,-,-,-⟩:=h.cells;have H:=qqh h;clear h;go_enter func91,ntmps91
 go_wp2
 go_quiet(fail)
 go_wp2
 go_ret2
 have hu:=(uur (fun _=>False) w).drewN nq;exact⟨rfl,own,H.o.new hu,H.o.ki hu⟩
theorem XH(h:CaAt own w c n p a)(k:Int):Calls prog 37 #[ptr c,.int .i64 k] w (zv own w c n p a (.tuple #[zM (getV a.ps k).1 (getV a.ps k).2,.bool (getC a.ps k==0)])):=by
 obtain⟨w1,hw1⟩:=qqe (w.alloc (.cells #[.int .i64 0,.bool false] 95));have hu1:=qqu hw1;have hg1:=qqg hw1;obtain⟨m,hm⟩:=qqe (w.heap.size);have hm0:own m=0:=h.far _ oM;rw[<-hm]at hg1;have h1:=h.new hu1;have d1:=h.ki hu1;have HG:=qqh (ri h1 k);have hcl:=h.clt;have HL:=Y2 h.nib.lt h.tur.lt;obtain⟨-,-,-,-,d4,-,-,-,-⟩:=h.cells;have HB:=qqh (rh (ps:=a.ps) (k:=k));have H:=Y3 d1 hg1 hm0;have HM:=qqh hm;have HW1:=qqh hw1;clear h1 h hu1 hg1 hm0 d1 hm hw1;go_enter func37,ntmps37
 go_wp2_with fail
 rw[<-HW1.o,<-HM.o];refine HG.o.mono ?_;rintro e w2 ⟨rfl,own2,h2,d2⟩;have g2:=(d2.upd.block m (zf H.o.2.1) (fun h=>h.1 H.o.2.2)).trans H.o.2.1;have hmo:own2 m=0:=(d2.old m (zf H.o.2.1)).trans H.o.2.2;generalize getV a.ps k=pv at*;obtain⟨s,b⟩:=pv;simp only at*;have hlm:=zf g2;have hne1:m≠0:=fun e=>by have:=HL.o.1;have:=HM.o;omega
 have hne2:m≠1:=fun e=>by have:=HL.o.2;have:=HM.o;omega
 have e0:=za g2 0;have e1:=za g2 1;have f0:=zg g2 0;have f1:=zg g2 1;simp at e0 e1;have HN:Hid (∀u v:Value,∃W,W=(((w2.setCell ⟨m,0,none⟩ u).setCell ⟨m,1,none⟩ v).alloc (.cells #[.int .i64 s,.bool b] 95))/\CaAt own2 W c n p a/\Did own own2 w W/\W.cell? ⟨m,0,none⟩=some u/\W.cell? ⟨m,1,none⟩=some v):=by
  intro u v;have hus:Upd (fun j=>j=m) w2 ((w2.setCell ⟨m,0,none⟩ u).setCell ⟨m,1,none⟩ v):=(zj _ _ _ _).trans (zj _ _ _ _);have g3:=zi (zi g2 0 u) 1 v;have hu3:=(uur (fun _=>False) ((w2.setCell ⟨m,0,none⟩ u).setCell ⟨m,1,none⟩ v)).alloc (.cells #[.int .i64 s,.bool b] 95);have h3:=h2.kv hus (fun j e=>by subst e;exact⟨hmo,hne1,hne2⟩);have d3:=((H.o.1.trans d2).setCell ⟨m,0,none⟩ (fun hl=>by have:=HM.o;simp at hl;omega) u).setCell ⟨m,1,none⟩ (fun hl=>by have:=HM.o;simp at hl;omega) v;have g4:=hu3.j6 g3;refine⟨_,rfl,h3.new hu3,d3.trans (h3.ki hu3),?_,?_⟩
  .have:=za g4 0;simpa using this
  .have:=za g4 1;simpa using this
 clear g2 h2 d2 hmo HG d4 hne1 hne2;by_cases hc:getC a.ps k=0
 .rw [hc];go_wp2
  obtain⟨W,hW,h3,d3,k0,k1⟩:=HN.o (.int .i64 s) (.bool b);rw[<-hW];clear HN;refine qYw (v:=.tuple #[zM s b,.bool true]) (by simp[results,results37,go_sem,k0,k1]) rfl ⟨by simp[hc],own2,h3,d3⟩
 .have q0:(getC a.ps k==0)=false:=by simpa using hc
  have hz:=HB.o hc;have hz1:s=0:=congrArg Prod.fst hz;have hz2:b=false:=congrArg Prod.snd hz;subst hz1 hz2;generalize getC a.ps k=cd at*;clear HB hz;go_wp2
  obtain⟨W,hW,h3,d3,k0,k1⟩:=HN.o (.int .i64 0) (.bool false);rw[<-hW];clear HN;refine qYw (v:=.tuple #[zM 0 false,.bool false]) (by simp[results,results37,go_sem,k0,k1]) rfl ⟨by simp[q0],own2,h3,d3⟩
end
end Go.Proofs.YtfhfbpmlnjdfoaaGreatDoor
