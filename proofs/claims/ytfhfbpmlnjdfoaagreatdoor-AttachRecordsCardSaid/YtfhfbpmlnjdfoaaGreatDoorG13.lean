/- A journal: Commit. A journal: Commit, the whol -/
import Derived.Test.YtfhfbpmlnjdfoaaGreatDoorG12
set_option maxRecDepth 100000
set_option maxHeartbeats 2000000
namespace Go.Proofs.YtfhfbpmlnjdfoaaGreatDoor
open Go Go.RowKit
theorem AB{T:Nat->Prop}{w:World}{j d base n cov next:Nat}{vw:Value}{W:List (Nat×Bk)}(h:JnAt w j vw d base n cov next W){g0:Nat}(c0:w.cell? ⟨g0,0,none⟩=some (.pointer (some ⟨j,0,none⟩)))
  {F:List Bk} {O:List (Nat×Bk)} {P:List Int} (hd:Dv T w d F O P) (hn:∀k,w.heap.size<=k->T k) (hTj:¬T j) (hTg:¬T g0) (s:Nat) (hs1:1<=s) (hs2:s<next) (y:Bk) (hy:y.length=64) (hbn:base+n<=F.length) (hO:O.length<65536):
  Calls Tryz.prog 175 #[.agg (wrC (s:Int) y).toArray,.pointer (some ⟨g0,0,none⟩)] w (Ro T w d (writeR F O P (base+(s-1)%n) y)):=by
 have hgd:=h.good;have hn1:=hgd.n1;have hbs:=hgd.bs;have hmx:=hgd.mx;obtain⟨w1,hw1⟩:=qqe (w.alloc (.cells (wrC (s:Int) y).toArray 289));have hu1:Upd (fun _=>False) w w1:=by rw[hw1];exact(uur _ w).alloc _
 have hg1:w1.heap[w.heap.size]?=some (.cells (wrC (s:Int) y).toArray 289 (0,0)):=by rw[hw1];exact zc w _ rfl
 obtain⟨r0,r1,r2,-,-,-⟩:=(h.new hu1).c;have rr:=zg hg1;have m0:w1.cell? ⟨w.heap.size,0,none⟩=some (.int .i64 (s:Int)):=za hg1 0;have rY:w1.rangeAt w.heap.size 1 (bkC y):=fun i v hv=>by
  have:=rr (1+i) v (by rw[Nat.add_comm];exact hv);rw[qYe]at this;exact this
 have hc0:=hu1.cellv c0 (fun h=>h);obtain⟨lp,hlp⟩:=qqe ((s-1)%n);have hlp1:lp<n:=by rw[hlp];exact qYa _ (by omega)
 obtain⟨sc,hsc⟩:=qqe (base+lp);have k1:IntKind.i64.wrap ((s:Int)-1)=(s:Int)-1:=qxv _ (by omega);have k2:IntKind.i64.wrap (((s:Int)-1).tmod (n:Int))=(lp:Int):=by
  rw[show(s:Int)-1=((s-1:Nat):Int) by omega,<-Int.ofNat_tmod,<-hlp];exact qxv _ (by omega)
 have k3:IntKind.i64.wrap ((base:Int)+(lp:Int))=(sc:Int):=by
  rw[hsc,qxt];exact qxv _ (by omega)
 have k4:IntKind.i64.wrap ((base:Int)+((s:Int)-1).tmod (n:Int))=(sc:Int):=by
  rw[show(s:Int)-1=((s-1:Nat):Int) by omega,<-Int.ofNat_tmod,<-hlp];exact k3
 have hn0:¬n=0:=by omega
 have hut:=Tryz.underlying54;have hsi:=zt y hy;have hsF:sc<F.length:=by omega
 have hd1:Dv (fun k=>T k/\k≠w.heap.size) w1.drew d F O P:=((hd.but (qXv _)).keep hu1 (fun _ _ h=>h)).keep ((uur (fun _=>False) _).drew) (fun _ _ h=>h);have hw1s:w.heap.size+1<=w1.drew.heap.size:=by rw[hw1];simp
 have hu1d:Upd T w w1.drew:=(hu1.drew).mono (fun _ _ h=>h.elim);rw[<-hlp,<-hsc];have HD:=Y6 hd1 (fun k (hk:w1.drew.heap.size<=k)=>(⟨hn k (by omega),by omega⟩:T k/\k≠w.heap.size)) hsF hy hO hu1d;have HW1:=qqh hw1;have HT:=Y2 hTj hTg;obtain⟨m,hm⟩:=qqe (w.heap.size);rw[<-hm]at m0 rY HD;have HM:=qqh hm;clear hTj hTg hd1 hn hsF hO hw1s hu1d hw1 hu1 hg1 hd h c0 hgd rr hlp hsc hlp1 hy hm hbn hbs hmx hs1 hs2 hn1;go_enter Tryz.func175,Tryz.ntmps175
 go_wp2
 rw[<-HW1.o,<-HM.o];refine qZj (S:=fun W=>W.cell? ⟨g0,0,none⟩=some (.pointer (some ⟨j,0,none⟩))/\W.cell? ⟨j,0,none⟩=some (.pointer (some ⟨d,0,none⟩))/\W.cell? ⟨j,1,none⟩=some (.int .i64 (base:Int))/\W.cell? ⟨j,2,none⟩=some (.int .i64 (n:Int))/\W.cell? ⟨m,0,none⟩=some (.int .i64 (s:Int))/\W.rangeAt m 1 (bkC y)) (by kernel_rfl) (by(simp only[qYo,qYq]);exact⟨hc0,r0,r1,r2,m0,rY⟩) (fun hHeld=>?_);refine Wl.i [0,1,2,3,4,5,6,7,8,9,10,11,12,13,14,15,16,17] ?_;iterate 18 refine Wl.t hHeld ?_
 refine Wl.o ?_;refine Wl.l 18 (fun w h=>h.2.2.2.2.2) hut hsi hHeld ?_;refine Wl.r 19 (fun K hK=>?_);go_simp
 refine(wI HD.o.1 HD.o.2.1 sc HD.o.2.2.1 y HD.o.2.2.2.1 HD.o.2.2.2.2.1).mono ?_;rintro e w2 ⟨rfl,hd2,hu2⟩;have H2:=Y3 hd2 (((uur (fun k=>T k/\k≠m) w1).drew).trans hu2) (HD.o.2.2.2.2.2.trans (hu2.mono (fun k _ h=>h.1)));clear hd2 hu2;have hTj:∀k,(T k/\k≠m)->¬k=j:=fun k hk e=>HT.o.1 (e▸hk.1);have hTg:∀k,(T k/\k≠m)->¬k=g0:=fun k hk e=>HT.o.2 (e▸hk.1);refine hK.o _ _ (⟨H2.o.2.1.cellv hc0 (fun h=>hTg _ h rfl),H2.o.2.1.cellv r0 (fun h=>hTj _ h rfl),H2.o.2.1.cellv r1 (fun h=>hTj _ h rfl),H2.o.2.1.cellv r2 (fun h=>hTj _ h rfl),H2.o.2.1.cellv m0 (fun h=>h.2 rfl),H2.o.2.1.range rY (fun h=>h.2 rfl)⟩) (fun hH1=>?_);clear hK K;refine Wl.r 20 (fun K hK=>?_);go_simp
 refine hK.o _ _ (hH1) (fun hH2=>?_);clear hK K;refine Wl.d ?_;go_wp2
 go_ret
 exact⟨rfl,H2.o.1.wide (fun k h=>h.1),H2.o.2.2⟩
def comW(base n:Nat)(F:List Bk):List (Nat×Bk)->List (Nat×Bk)->List Int->DRes
 |[],O,P=>⟨F,O,P,0⟩
 |(s,y)::W,O,P=>if(writeR F O P (base+(s-1)%n) y).cd=0 then comW base n F W (writeR F O P (base+(s-1)%n) y).O (writeR F O P (base+(s-1)%n) y).P else writeR F O P (base+(s-1)%n) y
theorem yu(F:List Bk)(O:List (Nat×Bk))(P:List Int)(s:Nat)(y:Bk):(writeR F O P s y).F=F:=by
 unfold writeR;split;rfl;split<;>rfl
theorem wD(F:List Bk)(O:List (Nat×Bk))(P:List Int)(s:Nat)(y:Bk):(writeR F O P s y).O.length<=O.length+1:=by
 unfold writeR;split;simp;split<;>simp
theorem Tk(F:List Bk)(O:List (Nat×Bk))(P:List Int):(flushR F O P).O.length<=O.length:=by
 unfold flushR;split;simp;split<;>simp
theorem Xo(base n:Nat)(F:List Bk):∀(W O:List (Nat×Bk)) (P:List Int),(comW base n F W O P).F=F
 |[],_,_=>rfl
 |(s,y)::W,O,P=>by
  unfold comW;split
  .exact Xo base n F W _ _
  .exact yu _ _ _ _ _
theorem Xp(base n:Nat)(F:List Bk):∀(W O:List (Nat×Bk)) (P:List Int),(comW base n F W O P).O.length<=O.length+W.length
 |[],_,_=>by simp[comW]
 |(s,y)::W,O,P=>by
  have h1:=wD F O P (base+(s-1)%n) y;unfold comW;split
  .have:=Xp base n F W (writeR F O P (base+(s-1)%n) y).O (writeR F O P (base+(s-1)%n) y).P;simp only[qze];omega
  .simp only[qze];omega
abbrev zaw(g0:Nat):Value:=.func (.func 175) #[] #[.pointer (some ⟨g0,0,none⟩)]
theorem JJ{T:Nat->Prop}{w:World}{j d base n cov next:Nat}{vw:Value}{W:List (Nat×Bk)}(h:JnAt w j vw d base n cov next W)(h1:∀p∈W,1<=p.1){g0:Nat}(c0:w.cell? ⟨g0,0,none⟩=some (.pointer (some ⟨j,0,none⟩)))
  {F:List Bk} {O:List (Nat×Bk)} {P:List Int} (hd:Dv T w d F O P) (hn:∀k,w.heap.size<=k->T k) (hT:∀k,Ji j vw k->¬T k) (hTg:¬T g0) (hbn:base+n<=F.length) (hO:O.length+W.length<=65536):
  Calls Tryz.prog 174 #[vw,zaw g0] w (Ro T w d (comW base n F W O P)):=by
 obtain⟨ao,c,rfl⟩:=h.ws.rd.nil_iff;have H:=Y9 h h1 c0 hn hT hTg hbn hO hd;clear h h1 c0 hn hT hTg hbn hO hd;go_enter Tryz.func174,Tryz.ntmps174
 go_wp2
 go_step3
 go_wp2
 go_step3
 go_wp2
 go_loopw[5,10] (fun s5 s10 wr=>∃k O' P',k<=W.length/\s5=.int .i64 0/\s10=.int .i64 (k:Int)/\Dv T wr d F O' P'/\Upd T w wr/\comW base n F W O P=comW base n F (W.drop k) O' P'/\O'.length<=O.length+k) (fun _ s10 _=>W.length-(intOf s10).toNat)
 case atStart=>exact⟨0,O,P,qYf _,rfl,rfl,H.o.2.2.2.2.2.2.2.2,uur _ _,rfl,qXv _⟩
 case round=>
  obtain⟨k,O',P',hk,rfl,rfl,hd,hu,hcom,hOl⟩:=hrel;by_cases hlt:k<W.length
  .obtain ⟨h,h1,c0,hn,hT,hTg,hbn,hO,-⟩:=H.o;have h':=h.keep hu hT;obtain⟨g,off,cap,e1,hgl,hcap,hr⟩:=h'.range hlt;cases e1;have hp1:=h1 W[k] (qyz hlt);have hWl:W.length<=65536:=by omega
   have hlw:=h.good.lt W[k] (qyz hlt);have h64:=h.good.w64 W[k] (qyz hlt);have hdr:W.drop k=(W[k].1,W[k].2)::W.drop (k+1):=qyb hlt;have b1:(0:Int)<=(k:Int):=by omega
   have b2:(k:Int)<(W.length:Int):=by omega
   rw[hdr,comW]at hcom;obtain⟨s,hs⟩:=qqe (W[k].1);obtain⟨y,hy⟩:=qqe (W[k].2);rw[<-hs,<-hy]at hr hcom;rw[<-hs]at hp1 hlw;rw[<-hy]at h64;have hu2:Upd (fun _=>False) wr (wr.alloc (.cells (wrC (s:Int) y).toArray 289)):=(uur _ _).alloc _;have hr2:=zg (zc wr (.cells (wrC (s:Int) y).toArray 289) rfl);have hub:=hu.trans (hu2.mono (fun _ _ h=>h.elim));have hc:=AB (h'.new hu2) (hub.cellv c0 hTg) (hd.keep hu2 (fun _ _ h=>h)) (fun k hk=>hn k (qXx hub.size hk)) (hT j (.inl rfl)) hTg s hp1 hlw y h64 hbn (by omega);have hF:=yu F O' P' (base+(s-1)%n) y;have hO1:=wD F O' P' (base+(s-1)%n) y;generalize writeR F O' P' (base+(s-1)%n) y=r at*;have HC:=Y7 hc hub hF hO1 hcom hOl hk;clear h h' h1 c0 hn hT hTg hbn hO hu hd hc hub hF hO1 hcom hOl hs hy hdr hp1 hlw hgl hcap hu2 hk;go_wp2_with (first
    |refine qZg rfl _ _ rfl _ _ rfl _ _ hr Tryz.underlying289 rfl (vm _ _ h64) ?_
    |refine qZg rfl _ _ rfl _ _ rfl _ _ hr2 Tryz.underlying289 rfl (vm _ _ h64) ?_
    |(refine zk rfl _ _ _ rfl _ _ _ rfl rfl (by rw[tw,wrC_len,h64]) (vm _ _ h64) (vF _ _) ?_)
    |fail)
   refine HC.o.1.mono ?_;rintro e w3 ⟨rfl,hd3,hu3⟩;have H3:=Y2 hd3 hu3;clear hd3 hu3 hr hr2;by_cases hcd:r.cd=0
   .rw [hcd];go_wp2
    go_roundw
    case rel=>
     obtain⟨-,hub,hF,hO1,hcom,hOl,hk⟩:=HC.o;have hd3:=H3.o.1;rw[hF]at hd3;rw[if_pos hcd]at hcom;exact⟨k+1,r.O,r.P,by omega,rfl,by go_num,hd3,hub.trans H3.o.2,hcom,by omega⟩
    case measure=>simp[intOf];omega
   .have q0:(r.cd==0)=false:=by simpa using hcd
    go_wp2
    go_ret
    obtain⟨-,hub,hF,hO1,hcom,hOl,hk⟩:=HC.o;rw[if_neg hcd]at hcom;rw[hcom];exact⟨rfl,H3.o.1,hub.trans H3.o.2⟩
  .obtain rfl:k=W.length:=by omega
   have HC:=Y3 hd hu hcom;clear hd hu hcom hk hOl;go_wp2
   go_ret
   obtain⟨hd,hu,hcom⟩:=HC.o;rw[hcom,List.drop_length];exact⟨rfl,hd,hu⟩
def comR(base n:Nat)(F:List Bk)(O:List (Nat×Bk))(P:List Int)(W:List (Nat×Bk)):DRes×List (Nat×Bk):=
 if(flushR F O P).cd≠0\/W=[]then(flushR F O P,W)
 else if(comW base n (flushR F O P).F W (flushR F O P).O (flushR F O P).P).cd≠0 then(comW base n (flushR F O P).F W (flushR F O P).O (flushR F O P).P,W)
 else if(flushR (comW base n (flushR F O P).F W (flushR F O P).O (flushR F O P).P).F (comW base n (flushR F O P).F W (flushR F O P).O (flushR F O P).P).O (comW base n (flushR F O P).F W (flushR F O P).O (flushR F O P).P).P).cd≠0 then
  (flushR (comW base n (flushR F O P).F W (flushR F O P).O (flushR F O P).P).F (comW base n (flushR F O P).F W (flushR F O P).O (flushR F O P).P).O (comW base n (flushR F O P).F W (flushR F O P).O (flushR F O P).P).P,W)
 else(flushR (comW base n (flushR F O P).F W (flushR F O P).O (flushR F O P).P).F (comW base n (flushR F O P).F W (flushR F O P).O (flushR F O P).P).O (comW base n (flushR F O P).F W (flushR F O P).O (flushR F O P).P).P,[])
theorem tZ(F:List Bk)(O:List (Nat×Bk))(P:List Int):(flushR F O P).F.length=F.length:=by
 unfold flushR;split;rfl;split;exact zH _ _;rfl
def JK(T:Nat->Prop)(w:World)(j:Nat)(vw:Value)(d base n cov next:Nat)(r:DRes×List (Nat×Bk))(e:Ending)(w':World):Prop:=
 e=.returned (.int .i64 r.1.cd)/\Dv T w' d r.1.F r.1.O r.1.P/\(∃vw',JnAt w' j vw' d base n cov next r.2/\(vw'=vw\/vw'.ownBlock=none))/\Upd (fun k=>T k\/k=j) w w'
theorem RP{T:Nat->Prop}{w:World}{j d base n cov next:Nat}{vw:Value}{W:List (Nat×Bk)}(h:JnAt w j vw d base n cov next W)(h1:∀p∈W,1<=p.1)
  {F:List Bk} {O:List (Nat×Bk)} {P:List Int} (hd:Dv T w d F O P) (hn:∀k,w.heap.size<=k->T k) (hT:∀k,Ji j vw k->¬T k) (hbn:base+n<=F.length) (hO:O.length+W.length<=65536):
  Calls Tryz.prog 101 #[.pointer (some ⟨j,0,none⟩)] w (JK T w j vw d base n cov next (comR base n F O P W)):=by
 have hmf:=qqf;obtain⟨ao,c,rfl⟩:=h.ws.rd.nil_iff;obtain⟨w1,hw1⟩:=qqe (w.alloc (.cells #[.pointer (some ⟨j,0,none⟩)] 166));have hu1:Upd (fun _=>False) w w1:=by rw[hw1];exact(uur _ w).alloc _
 have hg1:w1.heap[w.heap.size]?=some (.cells #[.pointer (some ⟨j,0,none⟩)] 166 (0,0)):=by rw[hw1];exact zc w _ rfl
 obtain⟨m,hm⟩:=qqe (w.heap.size);have hmw1:w1.heap.size=m+1:=by rw[hw1,hm];simp
 have hd1:Dv (fun k=>T k/\k≠m) w1 d F O P:=(hd.but (by omega)).keep hu1 (fun _ _ h=>h);have hn1:∀k,w1.heap.size<=k->T k/\k≠m:=fun k hk=>⟨hn k (by omega),by omega⟩
 have h1j:=h.new hu1;have g0:=za hg1 0;rw[<-hm]at g0 hg1;obtain⟨c0,-,-,-,-,c5⟩:=h1j.c;have HF:=qqh (xF hd1 hn1);have hjm:∀k,Ji j (.slice ao W.length c) k->¬(T k/\k≠m):=fun k hk ht=>hT k hk ht.1;have H:=Y11 h1j h1 hn1 hjm hbn hO hu1 hg1 hm hmw1 hT;have c0':=c0;rw[hw1]at c0';have HW1:=qqh hw1;have HM:=qqh hm;clear h h1 hd hn hT hbn hO hu1 hd1 hn1 h1j hg1 hjm hw1 hm hmw1;have g0':w1.cell? ⟨m,0,none⟩=some (.pointer (some ⟨j,0,none⟩)):=g0;go_enter Tryz.func101,Tryz.ntmps101
 go_wp2_with fail
 rw[<-HW1.o,<-HM.o];clear c0';refine HF.o.mono ?_;rintro e w2 ⟨rfl,hd2,hu2⟩;obtain⟨h1j,h1,hn1,hjm,hbn,hO,hu1,hg1,hm,hmw1,hT⟩:=H.o;have hl1:=tZ F O P;have ho1:=Tk F O P;have hcr:comR base n F O P W=comR base n F O P W:=rfl
 conv at hcr=>rhs;unfold comR
 generalize comR base n F O P W=R at*;generalize flushR F O P=r at*;have hj2:=h1j.keep hu2 hjm;have gm2:=hu2.cellv g0' (fun h=>h.2 rfl);obtain⟨d0,-,-,-,-,d5⟩:=hj2.c;have H2:=Y6 hd2 hu2 hj2 hl1 ho1 hcr;clear h1j h1 hn1 hjm hbn hO hu1 hg1 hm hmw1 hT hl1 ho1 hcr hj2 hd2 hu2 HF c0 c5 g0 g0';by_cases hcd:r.cd=0
 .have hcd':=qqh hcd;rw[hcd];clear hcd;by_cases hW:W.length=0
  .have hW':=qqh hW;rw[hW]at d5;clear hW;go_wp2
   go_ret
   obtain⟨hd2,hu2,hj2,hl1,ho1,hcr⟩:=H2.o;rw[if_pos (Or.inr (List.length_eq_zero_iff.1 hW'.out))]at hcr;subst hcr;refine⟨by rw[hcd'.out];rfl,hd2.wide (fun k h=>h.1),⟨_,hj2,.inl rfl⟩,?_⟩;obtain⟨h1j,h1,hn1,hjm,hbn,hO,hu1,hg1,hm,hmw1,hT⟩:=H.o;exact(hu1.mono (fun _ _ h=>h.elim)).trans (hu2.mono (fun k _ h=> .inl h.1))
  .have hW':=qqh hW;obtain⟨hd2,hu2,hj2,hl1,ho1,hcr⟩:=H2.o;obtain⟨h1j,h1,hn1,hjm,hbn,hO,hu1,hg1,hm,hmw1,hT⟩:=H.o;have HC:=qqh (JJ hj2 h1 gm2 hd2 (fun k hk=>hn1 k (qXx hu2.size hk)) hjm (fun h=>h.2 rfl) (by omega) (by omega));rw[if_neg (fun e=>e.elim (fun h=>h hcd'.out) (fun h=>hW (by simp[h])))]at hcr;have hfl:=Xo base n r.F W r.O r.P;have hol:=Xp base n r.F W r.O r.P;generalize comW base n r.F W r.O r.P=r2 at*;have H2':=Y3 hcr hfl hol;clear hcr hfl hol h1j h1 hn1 hjm hbn hO hu1 hg1 hm hmw1 hT hd2 hu2 hj2 hl1 ho1 hW;have hW:=hW'.out;go_wp2_with fail
   refine HC.o.mono ?_;rintro e w3 ⟨rfl,hd3,hu3⟩;obtain⟨hd2,hu2,hj2,hl1,ho1,-⟩:=H2.o;obtain⟨h1j,h1,hn1,hjm,hbn,hO,hu1,hg1,hm,hmw1,hT⟩:=H.o;have hj3:=hj2.keep hu3 hjm;have gm3:=hu3.cellv gm2 (fun h=>h.2 rfl);obtain⟨e0,-,-,-,-,e5⟩:=hj3.c;have HF3:=qqh (xF hd3 (fun k hk=>hn1 k (qXx (qXx hu2.size hu3.size) hk)));have hU3:Upd (fun k=>T k\/k=j) w w3:=((hu1.mono (fun _ _ h=>h.elim)).trans (hu2.mono (fun k _ h=> .inl h.1))).trans (hu3.mono (fun k _ h=> .inl h.1));have H3:=Y4 hd3 hj3 hU3 hjm;clear h1j h1 hn1 hjm hbn hO hu1 hg1 hm hmw1 hT hd2 hu2 hj2 hl1 ho1 hd3 hu3 hj3 hU3 d0 d5 gm2 HC;by_cases hc2:r2.cd=0
   .have hc2':=qqh hc2;rw[hc2];clear hc2;go_wp2_with fail
    refine HF3.o.mono ?_;rintro e w4 ⟨rfl,hd4,hu4⟩;obtain⟨hcr,hfl,hol⟩:=H2'.o;obtain⟨hd3,hj3,hU3,hjm⟩:=H3.o;rw[if_neg (fun e=>e hc2'.out)]at hcr;generalize flushR r2.F r2.O r2.P=r3 at*;have hj4:=hj3.keep hu4 hjm;have gm4:=hu4.cellv gm3 (fun h=>h.2 rfl);have z5:=hj4.fz 5;obtain⟨-,-,-,-,-,k5⟩:=hj4.c;have hU4:Upd (fun k=>T k\/k=j) w w4:=hU3.trans (hu4.mono (fun k _ h=> .inl h.1));have H4:=Y5 hcr hd4 hj4 hU4 hjm;clear hcr hfl hol hd3 hj3 hU3 hjm hd4 hu4 hj4 hU4 e0 e5 gm3 HF3;by_cases hc3:r3.cd=0
    .have hc3':=qqh hc3;rw[hc3];clear hc3;go_wp2
     go_ret
     obtain⟨hcr,hd4,hj4,hU4,hjm⟩:=H4.o;rw[if_neg (fun e=>e hc3'.out)]at hcr;subst hcr;have hu5:=zi w4 j 5 (.slice none 0 0);refine⟨by rw[hc3'.out];rfl,(hd4.keep hu5 (fun k hk e=>hjm k (.inl e) hk)).wide (fun k h=>h.1),⟨.slice none 0 0,⟨(zh hj4.str 5 _).trans (by simp),Sl.nil _ _ _,by simp[Value.ownBlock],⟨by simp,by simp,hj4.good.n1,by have:=hj4.good.wl;simp;omega,hj4.good.room,hj4.good.mx,hj4.good.bs⟩⟩,.inr rfl⟩,hU4.trans (hu5.mono (fun k _ e=> .inr e))⟩
    .have q0:(r3.cd==0)=false:=by simpa using hc3
     go_wp2
     go_ret
     obtain⟨hcr,hd4,hj4,hU4,hjm⟩:=H4.o;rw[if_pos hc3]at hcr;subst hcr;exact⟨rfl,hd4.wide (fun k h=>h.1),⟨_,hj4,.inl rfl⟩,hU4⟩
   .have q0:(r2.cd==0)=false:=by simpa using hc2
    go_wp2
    go_ret
    obtain⟨hcr,-⟩:=H2'.o;obtain⟨hd3,hj3,hU3,hjm⟩:=H3.o;rw[if_pos hc2]at hcr;subst hcr;exact⟨rfl,hd3.wide (fun k h=>h.1),⟨_,hj3,.inl rfl⟩,hU3⟩
 .have q0:(r.cd==0)=false:=by simpa using hcd
  go_wp2
  go_ret
  obtain⟨hd2,hu2,hj2,hl1,ho1,hcr⟩:=H2.o;rw[if_pos (Or.inl hcd)]at hcr;subst hcr;refine⟨rfl,hd2.wide (fun k h=>h.1),⟨_,hj2,.inl rfl⟩,?_⟩;obtain⟨h1j,h1,hn1,hjm,hbn,hO,hu1,hg1,hm,hmw1,hT⟩:=H.o;exact(hu1.mono (fun _ _ h=>h.elim)).trans (hu2.mono (fun k _ h=> .inl h.1))
theorem Did.step2{own:Nat->Nat}{w w':World}{t s q:Nat}(hf:∀j,w.heap.size<=j->own j=0)(ht:t≠0)(h16:t<16)(hs:s≠0)(hs16:s<16)(hq:own q=s)(hu:Upd (fun j=>(own j=t\/w.heap.size<=j)\/j=q) w w'):Did own (grow own t w.heap.size w'.heap.size) w w' where
 upd:=hu.mono (fun j hj h=>by rcases h with(h|h)|h;exact h▸⟨ht,h16⟩;omega;subst h;rw[hq];exact⟨hs,hs16⟩)
 old:=fun j hj=>zx hj
 new:=fun j hj=>by
  unfold grow;split
  .exact h16
  .rw [hf j hj];decide
 far:=fun j hj=>by
  have:=hu.size;unfold grow;rw[if_neg (by omega)];exact hf j (by omega)
section
variable{R:(Nat->Prop)->World->Prop}{own:Nat->Nat}{w w':World}{t s k q:Nat}
theorem Thing.other2(hR:Thing R)(h:R (fun j=>own j=k) w)(hk:k≠t)(hks:k≠s)(hq:own q=s)(hu:Upd (fun j=>(own j=t\/w.heap.size<=j)\/j=q) w w'):R (fun j=>grow own t w.heap.size w'.heap.size j=k) w':=by
 have h1:R (fun j=>own j=k/\j<w.heap.size) w:=hR.out h (fun j hj hs=>⟨hs,hj⟩);have h2:=hR.keep h1 hu (fun j hs ht=>by rcases ht with(ht|ht)|ht;exact hk (hs.1.symm.trans ht);omega;subst ht;exact hks (hs.1.symm.trans hq));exact hR.out h2 (fun j hj hs=>by rw[zx hs.2];exact hs.1)
end
section
variable{own:Nat->Nat}{w w':World}{c:Nat}{n:CaN}{p:CaP}{a:CaS}
theorem CaAt.jrOwn(h:CaAt own w c n p a):own p.jr=4/\p.jr<w.heap.size:=by
 obtain⟨vw,hj,hS⟩:=h.jr;exact⟨hS _ (.inl rfl),zd hj.str⟩
theorem CaAt.turn24(h:CaAt own w c n p a){F:List Bk}{O:List (Nat×Bk)}{P:List Int}{W:List (Nat×Bk)}(hu:Upd (fun j=>(own j=2\/w.heap.size<=j)\/j=p.jr) w w')(hd:Dv (fun j=>own j=2\/w.heap.size<=j) w' p.ssd F O P)(hl:F.length=a.dF.length)
  (hj:Jn (fun j=>own j=4/\j<w.heap.size) w' p.jr p.ssd (1+2*n.pa) n.jo a.cov a.next W):
  CaAt (grow own 2 w.heap.size w'.heap.size) w' c n p {a with dF:=F,dO:=O,dP:=P,W:=W}:=by
 have hq:=h.jrOwn.1;exact{h with
  str:=(hu.block c h.clt (fun hs=>by rcases hs with(hs|hs)|hs;rw[h.oc]at hs;exact absurd hs (by decide);exact absurd h.clt (by omega);have:=h.oc;rw[hs,hq]at this;exact absurd this (by decide))).trans h.str
  oc:=(zx h.clt).trans h.oc
  ssd:=(Dv.thing _ _ _ _).mine hu.size hd
  back:=(Dv.thing _ _ _ _).other2 h.back (by decide) (by decide) hq hu
  jr:=(Jn.thing _ _ _ _ _ _ _).out hj (fun j _ hs=>by rw[zx hs.2];exact hs.1)
  ix:=(Ix.thing _ _ _ _).other2 h.ix (by decide) (by decide) hq hu
  ss:=(Ss.thing _ _).other2 h.ss (by decide) (by decide) hq hu
  lg:=(Lg.thing _ _ _).other2 h.lg (by decide) (by decide) hq hu
  ck:=(Ck.thing _ _ _ _ _ _ _).other2 h.ck (by decide) (by decide) hq hu
  sm:=(Mp.thing _ _ _).other2 h.sm (by decide) (by decide) hq hu
  far:=(Did.step2 h.far (t:=2) (s:=4) (by decide) (by decide) (by decide) (by decide) hq hu).far
  nib:=h.nib.keep hu (fun hs=>by rcases hs with(hs|hs)|hs;rw[h.on]at hs;exact absurd hs (by decide);exact absurd h.nib.lt (by omega);exact absurd (h.on.symm.trans ((congrArg own hs).trans hq)) (by decide))
  tur:=h.tur.keep hu (fun hs=>by rcases hs with(hs|hs)|hs;rw[h.ot]at hs;exact absurd hs (by decide);exact absurd h.tur.lt (by omega);exact absurd (h.ot.symm.trans ((congrArg own hs).trans hq)) (by decide))
  on:=(zx h.nib.lt).trans h.on
  ot:=(zx h.tur.lt).trans h.ot
  fl:=hl.trans h.fl}
abbrev CaS.dev(a:CaS)(r:DRes):CaS:={a with dF:=r.F,dO:=r.O,dP:=r.P}
abbrev CaS.bdev(a:CaS)(r:DRes):CaS:={a with bF:=r.F,bO:=r.O,bP:=r.P}
theorem sU(h:CaAt own w c n p a)(s:Nat)(hs:s<a.dF.length)(x:Bk)(hx:x.length=64)(hO:a.dO.length<65536):
  Calls Tryz.prog 18 #[ptr p.ssd,.int .i64 (s:Int),.agg (bkC x).toArray] w (zu own w c n p (a.dev (writeR a.dF a.dO a.dP s x)) (.int .i64 (writeR a.dF a.dO a.dP s x).cd)):=
 (wI h.open2 (fun _ h=> .inr h) s hs x hx hO).mono fun _ _ ⟨he,hd,hu⟩=>⟨he,_,h.turn2 hu hd (by rw[yu]),h.did2 hu⟩
theorem xM(h:CaAt own w c n p a)(s:Nat)(hs:s<a.bF.length)(x:Bk)(hx:x.length=64)(hO:a.bO.length<65536):
  Calls Tryz.prog 18 #[ptr p.back,.int .i64 (s:Int),.agg (bkC x).toArray] w (zu own w c n p (a.bdev (writeR a.bF a.bO a.bP s x)) (.int .i64 (writeR a.bF a.bO a.bP s x).cd)):=
 (wI h.open3 (fun _ h=> .inr h) s hs x hx hO).mono fun _ _ ⟨he,hd,hu⟩=>⟨he,_,h.turn3 hu hd (by rw[yu]),h.did3 hu⟩
def sV(own:Nat->Nat)(w:World)(c:Nat)(n:CaN)(p:CaP)(a:CaS)(y0:Bk)(cd0:Int)(e:Ending)(w':World):Prop:=
 ∃(y:Bk) (cd:Int),y=y0/\cd=cd0/\y.length=64/\e=.returned (.tuple #[.agg (bkC y).toArray,.int .i64 cd])/\∃own',CaAt own' w' c n p a/\Did own own' w w'
theorem uZ(h:CaAt own w c n p a)(s:Nat)(hs:s<a.dF.length):
  Calls Tryz.prog 67 #[ptr p.ssd,.int .i64 (s:Int)] w (sV own w c n p {a with dP:=a.dP.tail} (if fate a.dP=1 then zB else curB a.dF a.dO s) (if fate a.dP=1 then 19 else 0)):=
 (xu h.open2 (fun _ h=> .inr h) s hs).mono fun _ _ ⟨y,cd,he,hy,hc,hl,hd,hu⟩=>⟨y,cd,hy,hc,hl,he,_,h.turn2 hu hd rfl,h.did2 hu⟩
theorem sW(h:CaAt own w c n p a)(s:Nat)(hs:s<a.bF.length):
  Calls Tryz.prog 67 #[ptr p.back,.int .i64 (s:Int)] w (sV own w c n p {a with bP:=a.bP.tail} (if fate a.bP=1 then zB else curB a.bF a.bO s) (if fate a.bP=1 then 19 else 0)):=
 (xu h.open3 (fun _ h=> .inr h) s hs).mono fun _ _ ⟨y,cd,he,hy,hc,hl,hd,hu⟩=>⟨y,cd,hy,hc,hl,he,_,h.turn3 hu hd rfl,h.did3 hu⟩
theorem ZW(h:CaAt own w c n p a):Calls Tryz.prog 232 #[ptr p.jr] w (zu own w c n p a (.int .i64 ((n.jo:Int)-((a.next:Int)-1-(a.cov:Int))))):=
 (Jl h.jr).mono fun _ _ ⟨he,hu⟩=>⟨he,own,h.new hu,h.didNew hu⟩
theorem sX(h:CaAt own w c n p a)(hroom:a.next<=a.cov+n.jo)(hmx:a.next<=1099511627776)(a0 a1 op block slot:Int)(db:Bool)(sum:Int)(hmay:mayR (jaddX a.next n.jo op block slot db sum)=true):
  Calls Tryz.prog 239 #[ptr p.jr,.agg (recC a0 a1 op block slot db sum).toArray] w (zu own w c n p {a with next:=a.next+1,W:=a.W++[(a.next,sectR (jaddX a.next n.jo op block slot db sum))]} (.tuple #[.int .i64 (a.next:Int),.int .i64 0])):=
 (zav h.open4 (fun _ h=> .inr h) h.nib (fun hs=>by rcases hs with hs|hs;rw[h.on]at hs;exact absurd hs (by decide);exact absurd h.nib.lt (by omega)) hroom hmx a0 a1 op block slot db sum hmay).mono fun _ _ ⟨he,hj,hu⟩=>⟨he,_,h.turn4 hu hj,h.did4 hu⟩
abbrev CaS.com(n:CaN)(a:CaS):DRes×List (Nat×Bk):=comR (1+2*n.pa) n.jo a.dF a.dO a.dP a.W
theorem Tl(base k:Nat)(F:List Bk)(O:List (Nat×Bk))(P:List Int)(W:List (Nat×Bk)):(comR base k F O P W).1.F.length=F.length:=by
 unfold comR
 repeat' split
 all_goals simp only[tZ,Xo]
theorem Vz(h:CaAt own w c n p a)(h1:∀q∈a.W,1<=q.1)(hO:a.dO.length+a.W.length<=65536):
  Calls Tryz.prog 101 #[ptr p.jr] w (zu own w c n p {a.dev (a.com n).1 with W:=(a.com n).2} (.int .i64 (a.com n).1.cd)):=by
 obtain⟨vw,hj,hS⟩:=h.jr;have hfl:=h.fl;have hz:=h.ok.z;unfold CaN.size at hfl;refine(RP hj h1 h.open2 (fun _ h=> .inr h) ?_ (by omega) hO).mono ?_
 .intro k hk hs;have h4:=hS k hk;rcases hs with hs|hs
  .rw [h4]at hs;exact absurd hs (by decide)
  .have:=hj.slt k hk;omega
 .rintro e w' ⟨rfl,hd,⟨vw',hj',hv⟩,hu⟩;have hq:=h.jrOwn.1;refine⟨rfl,_,h.turn24 hu hd (Tl _ _ _ _ _ _) ⟨vw',hj',?_⟩,Did.step2 h.far (by decide) (by decide) (by decide) (by decide) hq hu⟩;rintro k (rfl|hk)
  .exact ⟨hS _ (.inl rfl),zd hj.str⟩
  .rcases hv with rfl|hv
   .exact ⟨hS _ (.inr hk),hj.slt k (.inr hk)⟩
   .rw [hv]at hk;cases hk
end
def putC(ps:List (Int×Bool))(slots:Nat)(k s:Int):Int:=
 if k<0\/(ps.length:Int)<=k\/s<0\/(slots:Int)<=s then 10 else if atOf ps s=none\/atOf ps s=some k.toNat then 0 else 15
def putL(ps:List (Int×Bool))(slots:Nat)(k s:Int)(d:Bool):List (Int×Bool):=if putC ps slots k s=0 then ps.set k.toNat (s,d)else ps
def uy(ps:List (Int×Bool))(slots:Nat)(k s:Int):Int×Bool:=if putC ps slots k s=0 then ps.getD k.toNat (-1,false)else(0,false)
theorem Upd.undrew{S:Nat->Prop}{w w':World}(h:Upd S w.drew w'):Upd S w w':=⟨h.os,h.tape,h.output,h.size,h.block⟩
theorem Sl.setAt{w:World}{e:TypeId}{m g off n cap:Nat}{xs:List Value}(h:Sl w e m (.slice (some ⟨g,off,none⟩) n cap) n xs)(i:Nat)(hi:i<n*m)(u:Value):
  Sl (w.setCell ⟨g,off+i,none⟩ u) e m (.slice (some ⟨g,off,none⟩) n cap) n (xs.set i u):=by
 obtain⟨hl,⟨h1,_⟩|⟨g',off',cap',cur,h1,hg,hn,hm,hs,hc⟩⟩:=h
 .cases h1
 .cases h1;have hle:n*m<=cap*m:=qYb m hn;refine⟨by simpa using hl,.inr ⟨g,off,cap,_,rfl,zh hg _ _,hn,hm,by simpa using hs,fun j x hj=>?_⟩⟩;by_cases hji:i=j
  .subst hji;rw[List.getElem?_set_self (by omega)]at hj;cases hj;rw[Array.getElem?_setIfInBounds_self,if_pos (by omega)]
  .rw [List.getElem?_set_ne hji]at hj;rw[qxg (by omega)];exact hc j x hj
theorem sY(s:Int)(d:Bool):∀(ps:List (Int×Bool)) (k:Nat),((plC ps).set (k*2) (.int .i64 s)).set (k*2+1) (.bool d)=plC (ps.set k (s,d))
 |[],k=>by simp[plC]
 |p::ps,0=>by simp[plC]
 |p::ps,k+1=>by
  have:=sY s d ps k;simp only[plC,qyg,qXk,qya,qzz]at this⊢;rw[show(k+1)*2=k*2+1+1 by omega];simp only[qXk];rw[this]
theorem Sl.putPlace{w:World}{g off cap:Nat}{ps:List (Int×Bool)}(h:Sl w 95 2 (.slice (some ⟨g,off,none⟩) ps.length cap) ps.length (plC ps))(k:Nat)(hk:k<ps.length)(s:Int)(d:Bool):
  Sl ((w.setCell ⟨g,off+k*2,none⟩ (.int .i64 s)).setCell ⟨g,off+k*2+1,none⟩ (.bool d)) 95 2 (.slice (some ⟨g,off,none⟩) ps.length cap) (ps.set k (s,d)).length (plC (ps.set k (s,d))):=by
 rw[<-sY,qzj,qXr off];exact(h.setAt (k*2) (by omega) _).setAt (k*2+1) (by omega) _
theorem JL{w:World}{b mb N:Nat}{v:Value}{ps:List (Int×Bool)}{slots:Nat}(h:IndexAt w b v mb N ps slots)(k:Nat)(s:Int)(d:Bool)(hk:k<ps.length)(h0:0<=s)(h1:s<slots)(hm:mayPut ps k s)(hN:N<maxLen):
  Calls Tryz.prog 203 #[.pointer (some ⟨b,0,none⟩),.int .i64 k,zN s d] w fun e w'=>e=.returned (.tuple #[zN ps[k].1 ps[k].2,.int .i64 0])/\
   IndexAt w' b v mb (N+1) (ps.set k (s,d)) slots/\Upd (ixS v mb) w w':=by
 have hu:Upd (fun _=>False) w ((w.alloc (.cells #[.int .i64 s,.bool d] 95)).alloc (.cells #[.int .i64 0,.bool false] 95)):=((uur _ _).alloc _).alloc _;have H:=qqh h;have hbl:=h.blt;have hle:=h.le;have hsl:=h.sl1;have G0:=za h.str 0;have G1:=za h.str 1;have G2:=za h.str 2;simp at G0 G1 G2;obtain⟨g,off,cap,rfl,hg,P0,P1⟩:=h.at hk;have g0:=(hu.cellAt (o:=0) hbl (fun h=>h)).trans G0;have g1:=(hu.cellAt (o:=1) hbl (fun h=>h)).trans G1;have g2:=(hu.cellAt (o:=2) hbl (fun h=>h)).trans G2;have x1:¬(k:Int)<0:=by omega
 clear h;go_enter Tryz.func203,Tryz.ntmps203
 go_wp2
 go_quiet(fail)
 clear g0 g1 g2;generalize hw3:(((w.alloc (.cells #[.int .i64 s,.bool d] 95)).alloc (.cells #[.int .i64 0,.bool false] 95)).drewN nq)=w3;have hu3:Upd (fun _=>False) w w3:=by rw[<-hw3];exact hu.drewN nq
 have hbx:w3.heap[w.heap.size]?=some (.cells #[.int .i64 s,.bool d] 95):=by
  rw[<-hw3];exact((Upd.alloc (uur (fun _=>False) _) (.cells #[.int .i64 0,.bool false] 95)).block w.heap.size (by simp) (fun h=>h)).trans (zc w _ rfl)
 have hrx:w3.heap[w.heap.size+1]?=some (.cells #[.int .i64 0,.bool false] 95):=by
  rw[<-hw3];exact zc _ _ (by simp)
 have hz3:w3.heap.size=w.heap.size+2:=by rw[<-hw3];simp[World.drewN]
 clear hw3 hu;have g0:=(hu3.cellAt (o:=0) hbl (fun h=>h)).trans G0;have g1:=(hu3.cellAt (o:=1) hbl (fun h=>h)).trans G1;have p0:=(hu3.cellAt hg (fun h=>h)).trans P0;have p1:=(hu3.cellAt hg (fun h=>h)).trans P1;have b0:=za hbx 0;have b1:=za hbx 1;simp at b0 b1;have hI3:=qqh (H.o.keep hu3 (fun h=>h) (fun _ _ h=>h));have HB:=qqh hbx;have HR:=qqh hrx;clear hbx hrx P0 P1 G2;have hl:=(show MapAt w3.drew mb N (atOf ps)from hI3.out.map).look (x:=s) (by omega) (by omega);obtain⟨o,c,hl',hoc⟩:∃(o:Bool) (c:Nat),(Instr.lookup 116 (.map (some mb)) (.int .i64 s) true).run Tryz.prog w3.drew=.ok (.tuple #[.int .i64 (c:Int),.bool o]) w3.drew/\(o=false\/o=true/\c=k):=by
  refine⟨_,_,hl,?_⟩;rcases hm with e|e<;>rw[e]<;>simp
 clear hl;have HM:Hid (mayPut ps k s):=hm;clear hm;have hoc':o=false\/o=true/\k=c:=hoc.imp id (fun h=>⟨h.1,h.2.symm⟩);clear hoc;rcases hoc' with rfl|⟨rfl,rfl⟩
 all_goals
  go_wp2
  go_region
  clear hl';go_wp2
  clear b0 b1 p0 p1 g0 g1;generalize hw4:(w3.alloc (.cells #[.int .i64 ps[k].1,.bool ps[k].2] 95)).drew=w4;have hu34:Upd (fun _=>False) w3 w4:=by rw[<-hw4];exact((uur _ _).alloc _).drew
  have hwx:w4.heap[w.heap.size+2]?=some (.cells #[.int .i64 ps[k].1,.bool ps[k].2] 95):=by rw[<-hw4,<-hz3];exact zc w3 _ rfl
  have hz4:w4.heap.size=w.heap.size+3:=by rw[<-hw4];show(w3.alloc _).heap.size=_;simp[hz3]
  clear hw4;have hI4:=hI3.out.keep hu34 (fun h=>h) (fun _ _ h=>h);have HB4:=(hu34.block _ (by omega) (fun h=>h)).trans HB.o;have HR4:=(hu34.block _ (by omega) (fun h=>h)).trans HR.o;have hr:=hI4.good.each k hk;obtain⟨w5,hdel,hM5,hu45',hz5⟩:=(show MapAt w4.drew mb N (atOf ps)from hI4.map).drop (x:=ps[k].1) (by rcases hr with e|e;rw[e];decide;omega) (by rcases hr with e|e;rw[e];decide;omega) 0;have hu45:=hu45'.undrew;have hz5':w5.heap.size=w.heap.size+3:=hz5.trans hz4;clear hu45' hz5;have hbm:b≠mb:=fun e=>hI4.nm e.symm;have hgm:g≠mb:=fun e=>hI4.nv (by rw[e];rfl);have hgb:g≠b:=fun e=>hI4.ne (by rw[e];rfl);have hmlt:=H.o.map.lt;have W5:Hid (w5.heap[w.heap.size+2]?=some (.cells #[.int .i64 ps[k].1,.bool ps[k].2] 95)/\w5.heap[w.heap.size+1]?=some (.cells #[.int .i64 0,.bool false] 95)/\w5.heap[w.heap.size]?=some (.cells #[.int .i64 s,.bool d] 95)):=
   ⟨(hu45.block _ (by omega) (by omega)).trans hwx,(hu45.block _ (by omega) (by omega)).trans HR4,(hu45.block _ (by omega) (by omega)).trans HB4⟩
  have hS5:=qqh (hI4.sl.keep hu45 (fun g' hg' e=>by simp[Value.ownBlock]at hg';omega));have u0:=za hwx 0;have m1:=za hI4.str 1;simp at u0 m1;have hM5':=qqh hM5;have T5:=qqh ((hu45.block _ hI4.blt hbm).trans hI4.str);have U5:=qqh (((hu3.trans hu34).mono (S':=fun j=>j=mb) (fun _ _ h=>h.elim)).trans hu45);clear hu34 HB4 HR4 hwx hM5 hr;go_wp2
  go_region
  clear hdel u0 m1 hu45 hI4 hz4;obtain⟨g',off',cap',cur,hve,hg5,hcs,hcc⟩:=hS5.out.at (by omega);cases hve;have e0:=(za hg5 (off+k*2)).trans (hcc _ _ (xI hk).1);have e1:=(za hg5 (off+k*2+1)).trans (hcc (k*2+1) _ (xI hk).2);have f0:=zf hg5 (off+k*2);have f1:=zf hg5 (off+k*2+1);have t0:=za T5.out 0;have y0:=za W5.out.2.2 0;have y1:=za W5.out.2.2 1;simp at t0 y0 y1;clear hcs hcc hg5;go_wp2
  go_region
  clear t0 y0 y1 e0 e1 f0 f1;generalize hw6:((w5.setCell ⟨g,off+k*2,none⟩ (.int .i64 s)).setCell ⟨g,off+k*2+1,none⟩ (.bool d)).drew=w6;have hu56:Upd (fun j=>j=g) w5 w6:=by rw[<-hw6];exact((zi w5 g (off+k*2) _).trans (zi _ g (off+k*2+1) _)).drew
  have hS6:Sl w6 95 2 (.slice (some ⟨g,off,none⟩) ps.length cap) (ps.set k (s,d)).length (plC (ps.set k (s,d))):=by
   rw[<-hw6];exact(hS5.out.putPlace k hk s d).keep ((uur (fun _=>False) _).drew) (fun _ _ h=>h)
  have hz6:w6.heap.size=w.heap.size+3:=by rw[<-hw6];simp[World.drew,hz5']
  clear hw6;have hM6:=hM5'.out.keep hu56 (fun e=>hgm e.symm);have T6:=(hu56.block _ (by omega) (fun e=>hgb e.symm)).trans T5.out;have R6:=(hu56.block _ (by omega) (by omega)).trans W5.out.1;have R6':=(hu56.block _ (by omega) (by omega)).trans W5.out.2.1;have B6:=(hu56.block _ (by omega) (by omega)).trans W5.out.2.2;obtain⟨w7,hst,hM7,hu67',hz7⟩:=(show MapAt w6.drew mb N (upd1 (atOf ps) ps[k].1 none)from hM6).store (x:=s) (by omega) (by omega) k (by omega) hN;have hu67:=hu67'.undrew;have t1:=za T6 1;have y0:=za B6 0;simp at t1 y0;clear hu67';go_wp2
  go_region
  clear hst t1 y0;have X7:=(hu67.block _ (by omega) (by omega)).trans R6;have R7:=(hu67.block _ (by omega) (by omega)).trans R6';have T7:=(hu67.block _ (by omega) hbm).trans T6;have S7:=hS6.keep hu67 (fun g' hg' e=>by simp[Value.ownBlock]at hg';omega);have hG:=hI3.out.good;have hI7:IndexAt w7 b (.slice (some ⟨g,off,none⟩) ps.length cap) mb (N+1) (ps.set k (s,d)) slots:=
   {str:=T7,sl:=by simpa using S7,map:=by rw[hG.atOf_put hk d h0 h1 HM.o];exact hM7,good:=hG.put hk d h0 h1 HM.o,ne:=H.o.ne,nm:=H.o.nm,nv:=H.o.nv,le:=by simpa using hle,sl1:=hsl}
  have hz7':w7.heap.size=w.heap.size+3:=hz7.trans hz6;have U7:Upd (ixS (.slice (some ⟨g,off,none⟩) ps.length cap) mb) w w7:=
   ((U5.out.mono (fun j _ e=> .inr e)).trans (hu56.mono (fun j _ e=> .inl (by rw[e];rfl)))).trans (hu67.mono (fun j _ e=> .inr e))
  have HI:=qqh hI7;have HU:=qqh U7;have HR7:=qqh R7;have r0:=za R7 0;have r1:=za R7 1;have q0:=zf R7 0;have q1:=zf R7 1;have x0:=za X7 0;have x1':=za X7 1;simp at r0 r1 x0 x1';clear X7 R7 T7 S7 hG hI7 U7 R6 R6' B6 T6 hM6 hM7 hu56 hu67 hS6 hz7;go_wp2
  have HA3:=zh (zh HR7.o 0 (.int .i64 ps[k].1)) 1 (.bool ps[k].2);have y0:=za HA3 0;have y1:=za HA3 1;simp at y0 y1;have hue:Upd (fun j=>j=w.heap.size+1) w7 ((w7.setCell ⟨w.heap.size+1,0,none⟩ (.int .i64 ps[k].1)).setCell ⟨w.heap.size+1,1,none⟩ (.bool ps[k].2)):=(zi w7 (w.heap.size+1) 0 _).trans (zi _ _ 1 _);refine qYw (v:=.tuple #[zN ps[k].1 ps[k].2,.int .i64 0]) ?_ rfl ⟨rfl,?_,?_⟩
  .simp [results,Tryz.results203,go_sem,y0,y1]
  .exact HI.o.keep hue (by omega) (fun j hj e=>by have:=H.o.slt j hj;omega)
  .exact HU.o.new (hue.mono (fun _ _ h=>h)) (fun j hj e=>by omega)
theorem qa(w:World)(a:Nat)(h:w.heap[a]?=some (.cells #[.int .i64 0,.bool false] 95)):w.cell? ⟨a,0,none⟩=some (.int .i64 0)/\w.cell? ⟨a,1,none⟩=some (.bool false)/\w.frozen? ⟨a,0,none⟩=false/\w.frozen? ⟨a,1,none⟩=false:=
 ⟨za h 0,za h 1,zf h 0,zf h 1⟩
theorem qc(w:World)(a:Nat)(h:w.heap[a]?=some (.cells #[.int .i64 0,.bool false] 95)):
  (((w.setCell ⟨a,0,none⟩ (.int .i64 0)).setCell ⟨a,1,none⟩ (.bool false)).cell? ⟨a,0,none⟩=some (.int .i64 0)/\((w.setCell ⟨a,0,none⟩ (.int .i64 0)).setCell ⟨a,1,none⟩ (.bool false)).cell? ⟨a,1,none⟩=some (.bool false)):=by
 have h3:=zh (zh h 0 (.int .i64 0)) 1 (.bool false);have y0:=za h3 0;have y1:=za h3 1;simp at y0 y1;exact⟨y0,y1⟩
theorem uA{B:Nat}{a w:World}(h:Below B a w)(x:Nat)(hx:B<=x)(u u':Value):Below B a ((w.setCell ⟨x,0,none⟩ u).setCell ⟨x,1,none⟩ u'):=
 (h.setCell (p:=⟨x,0,none⟩) hx _).setCell (p:=⟨x,1,none⟩) hx _
theorem VA{w:World}{b mb N:Nat}{v:Value}{ps:List (Int×Bool)}{slots:Nat}(h:IndexAt w b v mb N ps slots)(k:Nat)(s:Int)(d:Bool)(hk:k<ps.length)(h0:0<=s)(h1:s<slots)(hm:¬mayPut ps k s):
  Calls Tryz.prog 203 #[.pointer (some ⟨b,0,none⟩),.int .i64 k,zN s d] w fun e w'=>e=.returned (.tuple #[zN 0 false,.int .i64 15])/\Below w.heap.size w w':=by
 have hu:Upd (fun _=>False) w ((w.alloc (.cells #[.int .i64 s,.bool d] 95)).alloc (.cells #[.int .i64 0,.bool false] 95)):=((uur _ _).alloc _).alloc _;have H:=qqh h;have hbl:=h.blt;have hle:=h.le;have hsl:=h.sl1;have G1:=za h.str 1;have g0:=(hu.cellAt (o:=0) hbl (fun h=>h)).trans (za h.str 0);have g2:=(hu.cellAt (o:=2) hbl (fun h=>h)).trans (za h.str 2);simp at g0 G1 g2;obtain⟨ao,c,rfl⟩:=h.sl.rd.nil_iff;have x1:¬(k:Int)<0:=by omega
 obtain⟨o,ho,hok⟩:∃o:Nat,atOf ps s=some o/\o≠k:=by
  cases e:atOf ps s with
  |none=>exact absurd (.inl e) hm
  |some o=>exact⟨o,rfl,fun e2=>hm (.inr (by rw[e,e2]))⟩
 have hoi:((o:Int)==(k:Int))=false:=by simp;omega
 clear h hm;go_enter Tryz.func203,Tryz.ntmps203
 go_wp2
 go_quiet(fail)
 clear g0 g2;generalize hw3:(((w.alloc (.cells #[.int .i64 s,.bool d] 95)).alloc (.cells #[.int .i64 0,.bool false] 95)).drewN nq)=w3;have hb3:Below w.heap.size w w3:=by rw[<-hw3];exact zS (((qxl _ _).alloc (qXv _) _).alloc (by simp) _) _
 have hu3:Upd (fun _=>False) w w3:=by rw[<-hw3];exact hu.drewN nq
 have hrx:w3.heap[w.heap.size+1]?=some (.cells #[.int .i64 0,.bool false] 95):=by rw[<-hw3];exact zc _ _ (by simp)
 have hbx:w3.heap[w.heap.size]?=some (.cells #[.int .i64 s,.bool d] 95):=by
  rw[<-hw3];exact((Upd.alloc (uur (fun _=>False) _) (.cells #[.int .i64 0,.bool false] 95)).block w.heap.size (by simp) (fun h=>h)).trans (zc w _ rfl)
 clear hw3 hu;obtain⟨r0,r1,f0,f1⟩:=qa _ _ hrx;have Y:=qqh (qc _ _ hrx);have b0:=za hbx 0;simp at b0;have g1:=(hu3.cellAt hbl (fun h=>h)).trans G1;have hl:=(show MapAt w3.drew mb N (atOf ps)from(MapAt.keep (w':=w3) H.o.map (S:=fun _=>False) hu3 (fun h=>h))).look (x:=s) (by omega) (by omega);rw[ho]at hl;simp only[Option.getD_some,Option.isSome_some]at hl;clear hrx hbx hu3 G1 ho hok;go_wp2
 go_region
 clear hl;go_wp2
 refine qYw (v:=.tuple #[zN 0 false,.int .i64 15]) ?_ rfl ⟨rfl,uA (w:=w3.drew) hb3.drew _ (by omega) _ _⟩;simp[results,Tryz.results203,go_sem,Y.out.1,Y.out.2]
theorem RQ{w:World}{b mb N:Nat}{v:Value}{ps:List (Int×Bool)}{slots:Nat}(h:IndexAt w b v mb N ps slots)(k s:Int)(d:Bool)(ho:k<0\/(ps.length:Int)<=k\/s<0\/(slots:Int)<=s):
  Calls Tryz.prog 203 #[.pointer (some ⟨b,0,none⟩),.int .i64 k,zN s d] w fun e w'=>e=.returned (.tuple #[zN 0 false,.int .i64 10])/\Below w.heap.size w w':=by
 have hu:Upd (fun _=>False) w ((w.alloc (.cells #[.int .i64 s,.bool d] 95)).alloc (.cells #[.int .i64 0,.bool false] 95)):=((uur _ _).alloc _).alloc _;have hbl:=h.blt;have hle:=h.le;have hsl:=h.sl1;have g0:=(hu.cellAt (o:=0) hbl (fun h=>h)).trans (za h.str 0);have g2:=(hu.cellAt (o:=2) hbl (fun h=>h)).trans (za h.str 2);simp at g0 g2;obtain⟨ao,c,rfl⟩:=h.sl.rd.nil_iff;clear h hu;have ho':k<0\/(¬k<0/\(ps.length:Int)<=k)\/(¬k<0/\¬(ps.length:Int)<=k/\s<0)\/(¬k<0/\¬(ps.length:Int)<=k/\¬s<0/\(slots:Int)<=s):=by omega
 clear ho;rcases ho' with h1|⟨h1,h2⟩|⟨h1,h2,h3⟩|⟨h1,h2,h3,h4⟩
 case' inr.inl=>
  have d1:decide (k<0)=false:=by simpa using h1
  have d2:decide ((ps.length:Int)<=k)=true:=by simpa using h2
 case' inr.inr.inl=>
  have d1:decide (k<0)=false:=by simpa using h1
  have d2:decide ((ps.length:Int)<=k)=false:=by simpa using h2
  have d3:decide (s<0)=true:=by simpa using h3
 case' inr.inr.inr=>
  have d1:decide (k<0)=false:=by simpa using h1
  have d2:decide ((ps.length:Int)<=k)=false:=by simpa using h2
  have d3:decide (s<0)=false:=by simpa using h3
  have d4:decide ((slots:Int)<=s)=true:=by simpa using h4
 all_goals
  go_enter Tryz.func203,Tryz.ntmps203
  go_wp2
  go_quiet(fail)
  clear g0 g2;generalize hw3:(((w.alloc (.cells #[.int .i64 s,.bool d] 95)).alloc (.cells #[.int .i64 0,.bool false] 95)).drewN nq)=w3;have hb3:Below w.heap.size w w3:=by rw[<-hw3];exact zS (((qxl _ _).alloc (qXv _) _).alloc (by simp) _) _
  have hrx:w3.heap[w.heap.size+1]?=some (.cells #[.int .i64 0,.bool false] 95):=by rw[<-hw3];exact zc _ _ (by simp)
  clear hw3;obtain⟨r0,r1,f0,f1⟩:=qa _ _ hrx;have Y:=qqh (qc _ _ hrx);clear hrx;go_wp2
  refine qYw (v:=.tuple #[zN 0 false,.int .i64 10]) ?_ rfl ⟨rfl,uA hb3 _ (by omega) _ _⟩;simp[results,Tryz.results203,go_sem,Y.out.1,Y.out.2]
end Go.Proofs.YtfhfbpmlnjdfoaaGreatDoor
