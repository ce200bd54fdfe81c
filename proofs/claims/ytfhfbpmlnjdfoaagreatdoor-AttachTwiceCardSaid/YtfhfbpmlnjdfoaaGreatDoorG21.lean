/- A journal: Roo -/
import Derived.Test.YtfhfbpmlnjdfoaaGreatDoorG20
set_option maxRecDepth 100000
set_option maxHeartbeats 4000000
namespace Go.Proofs.YtfhfbpmlnjdfoaaGreatDoor
open Go Go.RowKit Tryz
attribute [local go_sem↓] Zt Wi qN Zu Go.wp_at_zero Go.wp_at_succ
theorem EF{S:Nat->Prop}{w:World}{j d base n cov next:Nat}{W:List (Nat×Bk)}(h:Jn S w j d base n cov next W):
  Calls prog 232 #[.pointer (some ⟨j,0,none⟩)] w fun e w'=>e=.returned (.int .i64 ((n:Int)-((next:Int)-1-(cov:Int))))/\Upd (fun _=>False) w w':=by
 obtain⟨v,h,-⟩:=h;obtain⟨-,-,c2,c3,c4,-⟩:=h.c;obtain⟨-,-,hn,hwl,hrm,hmx,-⟩:=h.good;have q1:IntKind.i64.wrap ((next:Int)-1)=(next:Int)-1:=qxv _ (by omega);have q2:IntKind.i64.wrap ((next:Int)-1-(cov:Int))=(next:Int)-1-(cov:Int):=qxv _ (by omega);have q3:IntKind.i64.wrap ((n:Int)-((next:Int)-1-(cov:Int)))=(n:Int)-((next:Int)-1-(cov:Int)):=qxv _ (by omega);clear h hn hwl hrm hmx;go_enter func232,ntmps232
 go_wp2
 go_quiet(fail)
 go_wp2
 go_ret
 exact⟨rfl,(uur _ _).drewN nq⟩
theorem wR{w:World}{g i k:Nat}{v u:Value}(h:w.cell? ⟨g,i,none⟩=some v)(hne:¬k=i):(w.setCell ⟨g,k,none⟩ u).cell? ⟨g,i,none⟩=some v:=by
 rw[World.cell?_setCell_other _ _ _ _ (fun e=>hne (congrArg Addr.off e)),h]
abbrev jaddX(next n:Nat)(op block slot:Int)(d:Bool)(sum:Int):List Int:=recX (next:Int) (((next-1)/n:Nat):Int) op block slot d sum
theorem JnGood.add{base n cov next:Nat}{W:List (Nat×Bk)}(h:JnGood base n cov next W)(hroom:next<=cov+n)(hmx:next<=1099511627776){y:Bk}(hy:y.length=64):JnGood base n cov (next+1) (W++[(next,y)]):=
 ⟨fun p hp=>by rcases qzq.1 hp with h1|h1;exact h.w64 p h1;simp at h1;subst h1;exact hy,
  fun p hp=>by rcases qzq.1 hp with h1|h1;have:=h.lt p h1;omega;simp at h1;subst h1;simp,
  h.n1,by have:=h.wl;simp;omega,by omega,by omega,h.bs⟩
def JH(S:Nat->Prop)(w:World)(j d base n cov next:Nat)(W:List (Nat×Bk))(y:Bk)(e:Ending)(w':World):Prop:=
 e=.returned (.tuple #[.int .i64 (next:Int),.int .i64 0])/\Jn S w' j d base n cov (next+1) (W++[(next,y)])/\Upd S w w'
theorem zcN{S:Nat->Prop}{w:World}{j d base n cov next:Nat}{W:List (Nat×Bk)}(h:Jn S w j d base n cov next W)(hn:∀k,w.heap.size<=k->S k)(hN:Nib w)(hSN:¬S 0)(hroom:next<=cov+n)(hmx:next<=1099511627776)
  (a0 a1 op block slot:Int) (db:Bool) (sum:Int) (hmay:mayR (jaddX next n op block slot db sum)=true):
  Calls prog 239 #[.pointer (some ⟨j,0,none⟩),.agg (recC a0 a1 op block slot db sum).toArray] w (JH S w j d base n cov next W (sectR (jaddX next n op block slot db sum))):=by
 obtain⟨vw,h,hS⟩:=h;have hgd:=h.good;obtain⟨w1,hw1⟩:=qqe (w.alloc (.cells (recC a0 a1 op block slot db sum).toArray 101));have hu1:=qqu hw1;have hg1:=qqg hw1;have HRm:=qqh (EF (S:=ED j vw) ⟨vw,h.new hu1,fun _ h=>h⟩);have q0:((n:Int)-((next:Int)-1-(cov:Int))==0)=false:=by have:=hgd.wl;simp;omega
 have q00:¬(n:Int)-((next:Int)-1-(cov:Int))=0:=by have:=hgd.wl;omega
 have q4:¬1099511627776<(next:Int):=by omega
 have hn1:=hgd.n1;have hnx:1<=next:=by have:=hgd.wl;omega
 have H:=Y10 h hS hn hN hSN hroom hmx hmay hu1 hg1;have HW1:=qqh hw1;clear h hS hn hN hSN hroom hmay hu1 hg1 hw1 hgd;go_enter func239,ntmps239
 go_wp2_with fail
 rw[<-HW1.o];refine HRm.out.mono ?_;rintro e w2 ⟨rfl,hu2⟩;obtain⟨h,hS,hn,hN,hSN,hroom,-,hmay,hu1,hg1⟩:=H.o;have hu12:=hu1.trans hu2;have h2:=h.new hu12;have hg2:=hu2.jc hg1;obtain⟨-,-,c2,-,c4,-⟩:=h2.c;obtain⟨m,hm⟩:=qqe (w.heap.size);have hjm:¬j=m:=by have:=zf h.str;omega
 rw[<-hm]at hg2;have b0:w2.cell? ⟨m,0,none⟩=some (.int .i64 a0):=za hg2 0;have b1:w2.cell? ⟨m,1,none⟩=some (.int .i64 a1):=za hg2 1;have f0:=zg hg2 0;have f1:=zg hg2 1;have H2:=Y4 h2 hg2 hu12 hm;have r1:IntKind.i64.wrap ((next:Int)-1)=(next:Int)-1:=qxv _ (by omega);obtain⟨lp,hlp⟩:=qqe ((next-1)/n);have hlp1:lp<=next-1:=by rw[hlp];exact Nat.div_le_self _ _
 have r2:IntKind.i64.wrap (((next:Int)-1).tdiv (n:Int))=(lp:Int):=by
  rw[show(next:Int)-1=((next-1:Nat):Int) by omega,<-Int.ofNat_tdiv,<-hlp];exact qxv _ (by omega)
 have hn0:¬n=0:=by omega
 have g21:=zi hg2 0 (.int .i64 (next:Int));have b11:(w2.setCell ⟨m,0,none⟩ (.int .i64 (next:Int))).cell? ⟨m,1,none⟩=some (.int .i64 a1):=za g21 1;have f11:=zg g21 1;have HLp:=qqh hlp;have hu21:=zj w2 m 0 (.int .i64 (next:Int));have H21:=Y2 g21 hu21;rw[<-hm];clear hlp hlp1 g21 hu21;clear h hS hn hN hSN hroom hmay hu1 hg1 hu12 h2 hg2 hu2 hm HRm;go_upto_region 7 with fail
 refine qZj (S:=fun W=>W.cell? ⟨j,2,none⟩=some (.int .i64 (n:Int))/\W.cell? ⟨j,4,none⟩=some (.int .i64 (next:Int))) (by kernel_rfl) (by(simp only[qYo]);exact⟨c2,c4⟩) (fun hHeld=>?_);refine Wl.i [0,1,2,3,4,5,6,7,8,9,10,11,12,13,14] ?_;iterate 15 refine Wl.t hHeld ?_
 refine Wl.o ?_;refine Wl.r 15 (fun K hK=>?_);go_simp
 refine hK.o _ _ (⟨zt hHeld.1 (fun e=>hjm e.symm),zt hHeld.2 (fun e=>hjm e.symm)⟩) (fun hH1=>?_);clear hK K;refine Wl.i [16] (Wl.t hH1 (Wl.o ?_));refine Wl.r 17 (fun K hK=>?_);go_simp
 refine hK.o _ _ (⟨zt hH1.1 (fun e=>hjm e.symm),zt hH1.2 (fun e=>hjm e.symm)⟩) (fun hH2=>?_);clear hK K;refine Wl.d ?_;clear hHeld hH1 hH2 c2 c4 b0 b1 f0 f1 r1 r2 hn0 b11 f11;obtain⟨w3,hw3⟩:=qqe (((w2.setCell ⟨m,0,none⟩ (.int .i64 (next:Int))).setCell ⟨m,1,none⟩ (.int .i64 (lp:Int))).drew);rw[<-hw3];have hu3:Upd (fun k=>k=m) w2 w3:=by rw[hw3];exact(H21.o.2.trans (zj _ m 1 _)).drew
 have hg3:w3.heap[m]?=some (.cells (recC (next:Int) (lp:Int) op block slot db sum).toArray 101 (0,0)):=by
  rw[hw3];exact(((uur (fun _=>False) _).drew).jc (zi H21.o.1 1 (.int .i64 (lp:Int)))).trans (by simp)
 obtain⟨h,hS,hn,hN,hSN,hroom,-,hmay,hu1,hg1⟩:=H.o;obtain⟨h2,hg2,hu12,hm⟩:=H2.o;have hjs:∀k,ED j vw k->¬k=m:=fun k hk e=>by have:=h.slt k hk;omega
 have h3:=h2.keep hu3 hjs;have hN3:Nib w3:=(hN.keep hu12 (fun h=>h)).keep hu3 (fun e=>by have:=hN.lt;omega);obtain⟨y,hy⟩:=qqe (sectR (recX (next:Int) (lp:Int) op block slot db sum));have hyl:y.length=64:=by rw[hy];exact uO rfl
 have HP:=qqh (Qk hN3 (recC (next:Int) (lp:Int) op block slot db sum) rfl (recX (next:Int) (lp:Int) op block slot db sum) rfl (fun W=>zbD _ _ _ _ _ _ _ W));have hmay':mayR (recX (next:Int) (lp:Int) op block slot db sum)=true:=by rw[HLp.out];exact hmay
 have rX:=zh hg3;have H3:=Y7 h3 hg3 hu3 hjs hmay' hy hyl;clear h hS hn hN hSN hroom hmay hu1 hg1 h2 hg2 hu12 hm hjs h3 hN3 hmay' hy hw3 hu3 hg3;go_wp2_with (first
  |(refine qZg rfl _ _ rfl _ _ rfl _ _ rX underlying101 rfl (by rw[show(recC (next:Int) (lp:Int) op block slot db sum).length=7 from rfl];exact infoThR) ?_)
  |fail)
 refine HP.o.mono ?_;rintro e w4 ⟨he,hb4⟩;obtain rfl:e=.returned (.tuple #[.agg (bkC y).toArray,.int .i64 0]):=by
  rcases he with⟨-,he⟩|⟨hf,-⟩
  .rw [he,H3.o.2.2.2.2.2.1]
  .rw [H3.o.2.2.2.2.1]at hf;cases hf
 have hu4:=qqb hb4;obtain⟨w5,hw5⟩:=qqe (w4.alloc (.cells (bkC y).toArray 54));have hu5:=qqu hw5;have hg5:=qqg hw5;have hu35:=hu4.trans hu5;have h5:=H3.o.1.new hu35;have hyl:=H3.o.2.2.2.2.2.2;have siY:=qqh (zw y hyl);have oneY:=qqh (zv y);have lnY:Hid ((bkC y).length=64):=by show _=_;rw[zn,hyl]
 obtain⟨i,z,hi,hz,hzs,hsz,hby⟩:=xE;have hu:Upd (fun _=>False) w5 (w5.alloc (.cells (wrC (next:Int) y).toArray 289)).drew:=((uur _ _).alloc _).drew;have hd:=h5.new hu;have hrd:Rd (w5.alloc (.cells (wrC (next:Int) y).toArray 289)).drew 65 (.slice (some ⟨w5.heap.size,0,none⟩) 1 1) 1 (wrC (next:Int) y):=
  Rd.keep (Rd.fresh w5 (wrC (next:Int) y) 289 1 (by rw[wrC_len,hyl]) (by unfold maxLen;omega)) ((uur (fun _=>False) _).drew) (fun _ _ h=>h)
 have hWl:W.length<=1024:=by have:=H.o.1.good;have:=this.wl;have:=H.o.2.2.2.2.2.1;omega
 obtain⟨v',w6,hrun,hs1,hu6,hbf⟩:=yl 274 274 i z 72 underlying274 hi hz hsz hby hzs (by decide) hd.ws hrd (vW (next:Int) y) (by unfold maxLen;omega) (by omega);rw[<-Yq]at hs1;have hln:W.length+1=(W++[(next,y)]).length:=by simp
 rw[hln]at hs1;obtain⟨ao1,c1',rfl⟩:=hs1.rd.jd;have hstr6:=(hu6.block j (zf hd.str) (fun e=>hd.wb e)).trans hd.str;have k5:=za hstr6 5;have z5:=zg hstr6 5;have k4:=za hstr6 4;simp at k4 k5;obtain⟨-,-,-,-,c4,c5⟩:=h5.c;have hg5m:=hu35.jc H3.o.2.1;have rY:=zh hg5;have hbl:=UE (next:Int) y hyl;have hut:=underlying54;have hsi:=zw y hyl;have hlx:(bkC y).length=64:=by rw[zn,hyl]
 have h1x:=zv y;obtain⟨p6,hp6⟩:=qqe (w4.heap.size);rw[<-hp6]at rY hg5;have hvlt:∀g,vw.ownBlock=some g->g<w.heap.size:=fun g hg=>H.o.1.ws.lt hg;have hmw:=H2.o.2.2.2;have hsz4:w.heap.size<w4.heap.size:=by
  have h1:=zf H3.o.2.1;have h2:=hu4.size;omega
 have q4:=hu6.ja (zm c4 _) (fun e=>hd.wb e);have qY:=hu6.range (qYp rY _) (fun e=>by have:=hvlt _ e;omega);have hjp:¬j=p6:=by have:=zf H.o.1.str;omega
 have d5:=zm c5 (.cells (wrC (next:Int) y).toArray 289);have n4:=World.new_ne w5 _ c5;have HX:=Y9 hbf hu hu6 hs1 hstr6 hu35 hg5m hvlt hsz4;have HW5:=qqh hw5;have HP6:=qqh hp6;clear hbf hu hu6 hs1 hstr6 hu35 hg5m hvlt hsz4 hd hrd hb4 he hu4 hu5 h5 hw5 rX hln hmw hp6 hWl;go_wp2_with (first
  |(refine zk rfl _ _ _ rfl _ _ _ rfl rfl (by rw[lnY.out];rfl) siY.out oneY.out ?_)
  |fail)
 rw[<-HW5.o,<-HP6.o];refine qZj (S:=fun W=>W.cell? ⟨j,4,none⟩=some (.int .i64 (next:Int))/\W.rangeAt p6 0 (bkC y)) (by kernel_rfl) (⟨by rw[qYo];exact c4,by rw[qYq];exact rY⟩) (fun hHeld=>?_);refine Wl.i [0,1,2,3,5,6,7,8] ?_;iterate 8 refine Wl.t hHeld ?_
 refine Wl.o ?_;refine Wl.l 9 (fun w h=>h.2) hut hsi hHeld ?_;refine Wl.i [10] (Wl.t hHeld (Wl.o ?_));refine qZe (rs:=[4,11]) (by kernel_rfl) (by simp) ?_;refine qxb rfl (fun K hK=>?_) (qxb rfl (fun K hK=>?_) qxc)
 .go_simp
  refine hK.o _ _ ((by(go_split_ands;(simp only[qYq,qYo]at*);((repeat' constructor)<;>first|assumption|(apply zm;assumption)|(refine zt ?_ ?_<;>assumption)|(refine zF ?_ ?_<;>assumption)|(apply qYp;assumption)|(apply qYt;assumption))))) (fun hH1=>?_);clear hK K;refine Wl.r 11 (fun K hK=>?_);go_simp
  refine hK.o _ _ ((by(go_split_ands;(simp only[qYq,qYo]at*);((repeat' constructor)<;>first|assumption|(apply zm;assumption)|(refine zt ?_ ?_<;>assumption)|(refine zF ?_ ?_<;>assumption)|(apply qYp;assumption)|(apply qYt;assumption))))) (fun hH2=>?_);clear hK K;refine Wl.r 12 (fun K hK=>?_);refine zI rfl _ _ _ rfl rfl rfl hrun ?_;refine hK.o _ _ (⟨q4,qY⟩) (fun hH3=>?_);clear hK K;refine Wl.i [13,14] ?_;iterate 2 refine Wl.t hH3 ?_
  refine Wl.o ?_;refine Wl.r 15 (fun K hK=>?_);go_simp
  refine hK.o _ _ (⟨wR hH3.1 (by decide),zF hH3.2 hjp⟩) (fun _=>?_);clear hK K;refine Wl.d ?_;clear hH1 hH2 hH3 hHeld k5 z5 c4 c5 rY hbl hut hsi hlx h1x q4 qY d5 n4 hrun k4 hyl;obtain⟨hbf,hu,hu6,hs1,hstr6,hu35,hg5m,hvlt,hsz4⟩:=HX.o;have hl':(W++[(next,y)]).length=W.length+1:=by simp
  rw[hl']at hs1 hbf;obtain⟨u,hu0⟩:∃u:Value,u=.slice ao1 (W.length+1) c1':=⟨_,rfl⟩
  rw[<-hu0]at hs1 hbf;obtain⟨w7,hw7⟩:=qqe (w6.setCell ⟨j,5,none⟩ (.slice ao1 (W.length+1) c1'));rw[<-hw7];have hu7:Upd (fun k=>k=j) w6 w7:=by rw[hw7];exact zj _ _ _ _
  have g7:w7.heap[j]?=some (.cells #[.pointer (some ⟨d,0,none⟩),.int .i64 base,.int .i64 n,.int .i64 cov,.int .i64 next,u] 276 (0,0)):=by rw[hw7,hu0];exact(zi hstr6 5 _).trans (by simp)
  have d4:w7.cell? ⟨j,4,none⟩=some (.int .i64 (next:Int)):=za g7 4;have z4:=zg g7 4;have hnm:¬m=j:=fun e=>hjm e.symm;have hg7m:=(hu7.block m (qXy (zf hg5m) (qXx hu.size hu6.size)) hnm).trans ((hu6.block m (qXy (zf hg5m) hu.size) (fun e=>by have:=hvlt m e;have:=H2.o.2.2.2;omega)).trans (hu.jc hg5m));have m0:(w7.setCell ⟨j,4,none⟩ (.int .i64 ((next:Int)+1))).cell? ⟨m,0,none⟩=some (.int .i64 (next:Int)):=zt (za hg7m 0) (fun e=>hnm e.symm);have r1:IntKind.i64.wrap ((next:Int)+1)=(next:Int)+1:=qxv _ (by omega);have HY:=Y5 hs1 hbf hu7 g7 hu0;clear hbf hu hu6 hs1 hstr6 hu35 hg5m hvlt hsz4 hl' hu0 hw7 hu7 g7 hg7m hnm;go_wp2
  go_ret2
  obtain⟨hs1,hbf,hu7,g7,hu0⟩:=HY.o;obtain⟨-,hu,hu6,-,-,hu35,-,hvlt,hsz4⟩:=HX.o;obtain⟨h,hS,hn,-⟩:=H.o;have hU5:Upd S w w5:=((H2.o.2.2.1.mono (fun _ _ h=>h.elim)).trans (H3.o.2.2.1.mono (fun k _ e=>hn k (by rw[e,H2.o.2.2.2];exact qXv _)))).trans (hu35.mono (fun _ _ h=>h.elim));have hU6:Upd S w w6:=hU5.trans ((hu.mono (fun _ _ h=>h.elim)).trans (hu6.mono (fun k _ hk=>hS k (.inr hk))));have hub:u.ownBlock≠some j:=fun e=>by
   rcases hbf with h1|⟨g,h1,hle⟩
   .exact h.wb (by rw[<-h1];exact e)
   .rw [h1]at e;cases e;have:=zf h.str;have:=hU5.size;have:=hu.size;omega
  have hu8:Upd (fun k=>k=j) w7 (w7.setCell ⟨j,4,none⟩ (.int .i64 ((next:Int)+1))):=zj _ _ _ _;have hyy:sectR (jaddX next n op block slot db sum)=y:=by rw[H3.o.2.2.2.2.2.1,HLp.out]
  rw[hyy];refine⟨rfl,⟨u,⟨(zi g7 4 _).trans (by simp),?_,hub,h.good.add H.o.2.2.2.2.2.1 hmx H3.o.2.2.2.2.2.2⟩,?_⟩,hU6.trans ((hu7.trans hu8).mono (fun k _ e=>e▸hS j (.inl rfl)))⟩
  .rw [qzd];exact(hs1.jN hu7 hub).jN hu8 hub
  .rintro k (rfl|hk)
   .exact hS _ (.inl rfl)
   .rcases hbf with h1|⟨g,h1,hle⟩
    .exact hS _ (.inr (by rw[<-h1];exact hk))
    .rw [h1]at hk;cases hk;exact hn _ (by have:=hU5.size;have:=hu.size;omega)
 .go_simp
  refine hK.o _ _ ((by(go_split_ands;(simp only[qYq,qYo]at*);((repeat' constructor)<;>first|assumption|(apply zm;assumption)|(refine zt ?_ ?_<;>assumption)|(refine zF ?_ ?_<;>assumption)|(apply qYp;assumption)|(apply qYt;assumption))))) (fun hH1=>?_);clear hK K;refine Wl.r 4 (fun K hK=>?_);go_simp
  refine hK.o _ _ ((by(go_split_ands;(simp only[qYq,qYo]at*);((repeat' constructor)<;>first|assumption|(apply zm;assumption)|(refine zt ?_ ?_<;>assumption)|(refine zF ?_ ?_<;>assumption)|(apply qYp;assumption)|(apply qYt;assumption))))) (fun hH2=>?_);clear hK K;refine Wl.r 12 (fun K hK=>?_);refine zI rfl _ _ _ rfl rfl rfl hrun ?_;refine hK.o _ _ (⟨q4,qY⟩) (fun hH3=>?_);clear hK K;refine Wl.i [13,14] ?_;iterate 2 refine Wl.t hH3 ?_
  refine Wl.o ?_;refine Wl.r 15 (fun K hK=>?_);go_simp
  refine hK.o _ _ (⟨wR hH3.1 (by decide),zF hH3.2 hjp⟩) (fun _=>?_);clear hK K;refine Wl.d ?_;clear hH1 hH2 hH3 hHeld k5 z5 c4 c5 rY hbl hut hsi hlx h1x q4 qY d5 n4 hrun k4 hyl;obtain⟨hbf,hu,hu6,hs1,hstr6,hu35,hg5m,hvlt,hsz4⟩:=HX.o;have hl':(W++[(next,y)]).length=W.length+1:=by simp
  rw[hl']at hs1 hbf;obtain⟨u,hu0⟩:∃u:Value,u=.slice ao1 (W.length+1) c1':=⟨_,rfl⟩
  rw[<-hu0]at hs1 hbf;obtain⟨w7,hw7⟩:=qqe (w6.setCell ⟨j,5,none⟩ (.slice ao1 (W.length+1) c1'));rw[<-hw7];have hu7:Upd (fun k=>k=j) w6 w7:=by rw[hw7];exact zj _ _ _ _
  have g7:w7.heap[j]?=some (.cells #[.pointer (some ⟨d,0,none⟩),.int .i64 base,.int .i64 n,.int .i64 cov,.int .i64 next,u] 276 (0,0)):=by rw[hw7,hu0];exact(zi hstr6 5 _).trans (by simp)
  have d4:w7.cell? ⟨j,4,none⟩=some (.int .i64 (next:Int)):=za g7 4;have z4:=zg g7 4;have hnm:¬m=j:=fun e=>hjm e.symm;have hg7m:=(hu7.block m (qXy (zf hg5m) (qXx hu.size hu6.size)) hnm).trans ((hu6.block m (qXy (zf hg5m) hu.size) (fun e=>by have:=hvlt m e;have:=H2.o.2.2.2;omega)).trans (hu.jc hg5m));have m0:(w7.setCell ⟨j,4,none⟩ (.int .i64 ((next:Int)+1))).cell? ⟨m,0,none⟩=some (.int .i64 (next:Int)):=zt (za hg7m 0) (fun e=>hnm e.symm);have r1:IntKind.i64.wrap ((next:Int)+1)=(next:Int)+1:=qxv _ (by omega);have HY:=Y5 hs1 hbf hu7 g7 hu0;clear hbf hu hu6 hs1 hstr6 hu35 hg5m hvlt hsz4 hl' hu0 hw7 hu7 g7 hg7m hnm;go_wp2
  go_ret2
  obtain⟨hs1,hbf,hu7,g7,hu0⟩:=HY.o;obtain⟨-,hu,hu6,-,-,hu35,-,hvlt,hsz4⟩:=HX.o;obtain⟨h,hS,hn,-⟩:=H.o;have hU5:Upd S w w5:=((H2.o.2.2.1.mono (fun _ _ h=>h.elim)).trans (H3.o.2.2.1.mono (fun k _ e=>hn k (by rw[e,H2.o.2.2.2];exact qXv _)))).trans (hu35.mono (fun _ _ h=>h.elim));have hU6:Upd S w w6:=hU5.trans ((hu.mono (fun _ _ h=>h.elim)).trans (hu6.mono (fun k _ hk=>hS k (.inr hk))));have hub:u.ownBlock≠some j:=fun e=>by
   rcases hbf with h1|⟨g,h1,hle⟩
   .exact h.wb (by rw[<-h1];exact e)
   .rw [h1]at e;cases e;have:=zf h.str;have:=hU5.size;have:=hu.size;omega
  have hu8:Upd (fun k=>k=j) w7 (w7.setCell ⟨j,4,none⟩ (.int .i64 ((next:Int)+1))):=zj _ _ _ _;have hyy:sectR (jaddX next n op block slot db sum)=y:=by rw[H3.o.2.2.2.2.2.1,HLp.out]
  rw[hyy];refine⟨rfl,⟨u,⟨(zi g7 4 _).trans (by simp),?_,hub,h.good.add H.o.2.2.2.2.2.1 hmx H3.o.2.2.2.2.2.2⟩,?_⟩,hU6.trans ((hu7.trans hu8).mono (fun k _ e=>e▸hS j (.inl rfl)))⟩
  .rw [qzd];exact(hs1.jN hu7 hub).jN hu8 hub
  .rintro k (rfl|hk)
   .exact hS _ (.inl rfl)
   .rcases hbf with h1|⟨g,h1,hle⟩
    .exact hS _ (.inr (by rw[<-h1];exact hk))
    .rw [h1]at hk;cases hk;exact hn _ (by have:=hU5.size;have:=hu.size;omega)
def comR(base n:Nat)(F:List Bk)(O:List (Nat×Bk))(P:List Int)(W:List (Nat×Bk)):DRes×List (Nat×Bk):=
 if(flushR F O P).cd≠0\/W=[]then(flushR F O P,W)
 else if(comW base n (flushR F O P).F W (flushR F O P).O (flushR F O P).P).cd≠0 then(comW base n (flushR F O P).F W (flushR F O P).O (flushR F O P).P,W)
 else if(flushR (comW base n (flushR F O P).F W (flushR F O P).O (flushR F O P).P).F (comW base n (flushR F O P).F W (flushR F O P).O (flushR F O P).P).O (comW base n (flushR F O P).F W (flushR F O P).O (flushR F O P).P).P).cd≠0 then
  (flushR (comW base n (flushR F O P).F W (flushR F O P).O (flushR F O P).P).F (comW base n (flushR F O P).F W (flushR F O P).O (flushR F O P).P).O (comW base n (flushR F O P).F W (flushR F O P).O (flushR F O P).P).P,W)
 else(flushR (comW base n (flushR F O P).F W (flushR F O P).O (flushR F O P).P).F (comW base n (flushR F O P).F W (flushR F O P).O (flushR F O P).P).O (comW base n (flushR F O P).F W (flushR F O P).O (flushR F O P).P).P,[])
theorem qU(F:List Bk)(O:List (Nat×Bk))(P:List Int):(flushR F O P).F.length=F.length:=by
 unfold flushR;split;rfl;split;exact zC _ _;rfl
def AG(T:Nat->Prop)(w:World)(j:Nat)(vw:Value)(d base n cov next:Nat)(r:DRes×List (Nat×Bk))(e:Ending)(w':World):Prop:=
 e=.returned (.int .i64 r.1.cd)/\Dv T w' d r.1.F r.1.O r.1.P/\(∃vw',JnAt w' j vw' d base n cov next r.2/\(vw'=vw\/vw'.ownBlock=none))/\Upd (fun k=>T k\/k=j) w w'
theorem JI{T:Nat->Prop}{w:World}{j d base n cov next:Nat}{vw:Value}{W:List (Nat×Bk)}(h:JnAt w j vw d base n cov next W)(h1:∀p∈W,1<=p.1)
  {F:List Bk} {O:List (Nat×Bk)} {P:List Int} (hd:Dv T w d F O P) (hn:∀k,w.heap.size<=k->T k) (hT:∀k,ED j vw k->¬T k) (hbn:base+n<=F.length) (hO:O.length+W.length<=65536):
  Calls prog 101 #[.pointer (some ⟨j,0,none⟩)] w (AG T w j vw d base n cov next (comR base n F O P W)):=by
 have hmf:=qqf;obtain⟨ao,c,rfl⟩:=h.ws.rd.jd;obtain⟨w1,hw1⟩:=qqe (w.alloc (.cells #[.pointer (some ⟨j,0,none⟩)] 166));have hu1:=qqu hw1;have hg1:=qqg hw1;obtain⟨m,hm⟩:=qqe (w.heap.size);have hmw1:w1.heap.size=m+1:=by rw[hw1,hm];simp
 have hd1:Dv (fun k=>T k/\k≠m) w1 d F O P:=(hd.but (by omega)).keep hu1 (fun _ _ h=>h);have hn1:∀k,w1.heap.size<=k->T k/\k≠m:=fun k hk=>⟨hn k (by omega),by omega⟩
 have h1j:=h.new hu1;have g0:=za hg1 0;rw[<-hm]at g0 hg1;obtain⟨c0,-,-,-,-,c5⟩:=h1j.c;have HF:=qqh (xA hd1 hn1);have hjm:∀k,ED j (.slice ao W.length c) k->¬(T k/\k≠m):=fun k hk ht=>hT k hk ht.1;have H:=Y11 h1j h1 hn1 hjm hbn hO hu1 hg1 hm hmw1 hT;have c0':=c0;rw[hw1]at c0';have HW1:=qqh hw1;have HM:=qqh hm;clear h h1 hd hn hT hbn hO hu1 hd1 hn1 h1j hg1 hjm hw1 hm hmw1;have g0':w1.cell? ⟨m,0,none⟩=some (.pointer (some ⟨j,0,none⟩)):=g0;go_enter func101,ntmps101
 go_wp2_with fail
 rw[<-HW1.o,<-HM.o];clear c0';refine HF.o.mono ?_;rintro e w2 ⟨rfl,hd2,hu2⟩;obtain⟨h1j,h1,hn1,hjm,hbn,hO,hu1,hg1,hm,hmw1,hT⟩:=H.o;have hl1:=qU F O P;have ho1:=Qq F O P;have hcr:comR base n F O P W=comR base n F O P W:=rfl
 conv at hcr=>rhs;unfold comR
 generalize comR base n F O P W=R at*;generalize flushR F O P=r at*;have hj2:=h1j.keep hu2 hjm;have gm2:=hu2.ja g0' (fun h=>h.2 rfl);obtain⟨d0,-,-,-,-,d5⟩:=hj2.c;have H2:=Y6 hd2 hu2 hj2 hl1 ho1 hcr;clear h1j h1 hn1 hjm hbn hO hu1 hg1 hm hmw1 hT hl1 ho1 hcr hj2 hd2 hu2 HF c0 c5 g0 g0';by_cases hcd:r.cd=0
 .have hcd':=qqh hcd;rw[hcd];clear hcd;by_cases hW:W.length=0
  .have hW':=qqh hW;rw[hW]at d5;clear hW;go_wp2
   go_ret
   obtain⟨hd2,hu2,hj2,hl1,ho1,hcr⟩:=H2.o;rw[if_pos (Or.inr (List.length_eq_zero_iff.1 hW'.out))]at hcr;subst hcr;refine⟨by rw[hcd'.out];rfl,hd2.wide (fun k h=>h.1),⟨_,hj2,.inl rfl⟩,?_⟩;obtain⟨h1j,h1,hn1,hjm,hbn,hO,hu1,hg1,hm,hmw1,hT⟩:=H.o;exact(hu1.mono (fun _ _ h=>h.elim)).trans (hu2.mono (fun k _ h=> .inl h.1))
  .have hW':=qqh hW;obtain⟨hd2,hu2,hj2,hl1,ho1,hcr⟩:=H2.o;obtain⟨h1j,h1,hn1,hjm,hbn,hO,hu1,hg1,hm,hmw1,hT⟩:=H.o;have HC:=qqh (Ak hj2 h1 gm2 hd2 (fun k hk=>hn1 k (qXx hu2.size hk)) hjm (fun h=>h.2 rfl) (by omega) (by omega));rw[if_neg (fun e=>e.elim (fun h=>h hcd'.out) (fun h=>hW (by simp[h])))]at hcr;have hfl:=Wj base n r.F W r.O r.P;have hol:=Wk base n r.F W r.O r.P;generalize comW base n r.F W r.O r.P=r2 at*;have H2':=Y3 hcr hfl hol;clear hcr hfl hol h1j h1 hn1 hjm hbn hO hu1 hg1 hm hmw1 hT hd2 hu2 hj2 hl1 ho1 hW;have hW:=hW'.out;go_wp2_with fail
   refine HC.o.mono ?_;rintro e w3 ⟨rfl,hd3,hu3⟩;obtain⟨hd2,hu2,hj2,hl1,ho1,-⟩:=H2.o;obtain⟨h1j,h1,hn1,hjm,hbn,hO,hu1,hg1,hm,hmw1,hT⟩:=H.o;have hj3:=hj2.keep hu3 hjm;have gm3:=hu3.ja gm2 (fun h=>h.2 rfl);obtain⟨e0,-,-,-,-,e5⟩:=hj3.c;have HF3:=qqh (xA hd3 (fun k hk=>hn1 k (qXx (qXx hu2.size hu3.size) hk)));have hU3:Upd (fun k=>T k\/k=j) w w3:=((hu1.mono (fun _ _ h=>h.elim)).trans (hu2.mono (fun k _ h=> .inl h.1))).trans (hu3.mono (fun k _ h=> .inl h.1));have H3:=Y4 hd3 hj3 hU3 hjm;clear h1j h1 hn1 hjm hbn hO hu1 hg1 hm hmw1 hT hd2 hu2 hj2 hl1 ho1 hd3 hu3 hj3 hU3 d0 d5 gm2 HC;by_cases hc2:r2.cd=0
   .have hc2':=qqh hc2;rw[hc2];clear hc2;go_wp2_with fail
    refine HF3.o.mono ?_;rintro e w4 ⟨rfl,hd4,hu4⟩;obtain⟨hcr,hfl,hol⟩:=H2'.o;obtain⟨hd3,hj3,hU3,hjm⟩:=H3.o;rw[if_neg (fun e=>e hc2'.out)]at hcr;generalize flushR r2.F r2.O r2.P=r3 at*;have hj4:=hj3.keep hu4 hjm;have gm4:=hu4.ja gm3 (fun h=>h.2 rfl);have z5:=hj4.fz 5;obtain⟨-,-,-,-,-,k5⟩:=hj4.c;have hU4:Upd (fun k=>T k\/k=j) w w4:=hU3.trans (hu4.mono (fun k _ h=> .inl h.1));have H4:=Y5 hcr hd4 hj4 hU4 hjm;clear hcr hfl hol hd3 hj3 hU3 hjm hd4 hu4 hj4 hU4 e0 e5 gm3 HF3;by_cases hc3:r3.cd=0
    .have hc3':=qqh hc3;rw[hc3];clear hc3;go_wp2
     go_ret
     obtain⟨hcr,hd4,hj4,hU4,hjm⟩:=H4.o;rw[if_neg (fun e=>e hc3'.out)]at hcr;subst hcr;have hu5:=zj w4 j 5 (.slice none 0 0);refine⟨by rw[hc3'.out];rfl,(hd4.keep hu5 (fun k hk e=>hjm k (.inl e) hk)).wide (fun k h=>h.1),⟨.slice none 0 0,⟨(zi hj4.str 5 _).trans (by simp),Sl.nil _ _ _,by simp[Value.ownBlock],⟨by simp,by simp,hj4.good.n1,by have:=hj4.good.wl;simp;omega,hj4.good.room,hj4.good.mx,hj4.good.bs⟩⟩,.inr rfl⟩,hU4.trans (hu5.mono (fun k _ e=> .inr e))⟩
    .have q0:(r3.cd==0)=false:=by simpa using hc3
     go_wp2
     go_ret
     obtain⟨hcr,hd4,hj4,hU4,hjm⟩:=H4.o;rw[if_pos hc3]at hcr;subst hcr;exact⟨rfl,hd4.wide (fun k h=>h.1),⟨_,hj4,.inl rfl⟩,hU4⟩
   .have q0:(r2.cd==0)=false:=by simpa using hc2
    go_wp2
    go_ret
    obtain⟨hcr,-⟩:=H2'.o;obtain⟨hd3,hj3,hU3,hjm⟩:=H3.o;rw[if_pos hc2]at hcr;subst hcr;exact⟨rfl,hd3.wide (fun k h=>h.1),⟨_,hj3,.inl rfl⟩,hU3⟩
 .have q0:(r.cd==0)=false:=by simpa using hcd
  go_wp2
  go_ret
  obtain⟨hd2,hu2,hj2,hl1,ho1,hcr⟩:=H2.o;rw[if_pos (Or.inl hcd)]at hcr;subst hcr;refine⟨rfl,hd2.wide (fun k h=>h.1),⟨_,hj2,.inl rfl⟩,?_⟩;obtain⟨h1j,h1,hn1,hjm,hbn,hO,hu1,hg1,hm,hmw1,hT⟩:=H.o;exact(hu1.mono (fun _ _ h=>h.elim)).trans (hu2.mono (fun k _ h=> .inl h.1))
theorem Did.step2{own:Nat->Nat}{w w':World}{t s q:Nat}(hf:∀j,w.heap.size<=j->own j=0)(ht:t≠0)(h16:t<16)(hs:s≠0)(hs16:s<16)(hq:own q=s)(hu:Upd (fun j=>(own j=t\/w.heap.size<=j)\/j=q) w w'):Did own (grow own t w.heap.size w'.heap.size) w w' where
 upd:=hu.mono (fun j hj h=>by rcases h with(h|h)|h;exact h▸⟨ht,h16⟩;omega;subst h;rw[hq];exact⟨hs,hs16⟩)
 old:=fun j hj=>zx hj
 new:=fun j hj=>by
  unfold grow;split
  .exact h16
  .rw [hf j hj];decide
 far:=fun j hj=>by
  have:=hu.size;unfold grow;rw[if_neg (by omega)];exact hf j (by omega)
section
variable{R:(Nat->Prop)->World->Prop}{own:Nat->Nat}{w w':World}{t s k q:Nat}
theorem Thing.other2(hR:Thing R)(h:R (fun j=>own j=k) w)(hk:k≠t)(hks:k≠s)(hq:own q=s)(hu:Upd (fun j=>(own j=t\/w.heap.size<=j)\/j=q) w w'):R (fun j=>grow own t w.heap.size w'.heap.size j=k) w':=by
 have h1:R (fun j=>own j=k/\j<w.heap.size) w:=hR.out h (fun j hj hs=>⟨hs,hj⟩);have h2:=hR.keep h1 hu (fun j hs ht=>by rcases ht with(ht|ht)|ht;exact hk (hs.1.symm.trans ht);omega;subst ht;exact hks (hs.1.symm.trans hq));exact hR.out h2 (fun j hj hs=>by rw[zx hs.2];exact hs.1)
end
section
variable{own:Nat->Nat}{w w':World}{c:Nat}{n:CaN}{p:CaP}{a:CaS}
theorem CaAt.jrOwn(h:CaAt own w c n p a):own p.jr=4/\p.jr<w.heap.size:=by
 obtain⟨vw,hj,hS⟩:=h.jr;exact⟨hS _ (.inl rfl),zf hj.str⟩
theorem CaAt.turn24(h:CaAt own w c n p a){F:List Bk}{O:List (Nat×Bk)}{P:List Int}{W:List (Nat×Bk)}(hu:Upd (fun j=>(own j=2\/w.heap.size<=j)\/j=p.jr) w w')(hd:Dv (fun j=>own j=2\/w.heap.size<=j) w' p.ssd F O P)(hl:F.length=a.dF.length)
  (hj:Jn (fun j=>own j=4/\j<w.heap.size) w' p.jr p.ssd (1+2*n.pa) n.jo a.cov a.next W):
  CaAt (grow own 2 w.heap.size w'.heap.size) w' c n p {a with dF:=F,dO:=O,dP:=P,W:=W}:=by
 have hq:=h.jrOwn.1;exact{h with
  str:=(hu.block c h.clt (fun hs=>by rcases hs with(hs|hs)|hs;rw[h.oc]at hs;exact absurd hs (by decide);exact absurd h.clt (by omega);have:=h.oc;rw[hs,hq]at this;exact absurd this (by decide))).trans h.str
  oc:=(zx h.clt).trans h.oc
  ssd:=(Dv.jQ _ _ _ _).mine hu.size hd
  back:=(Dv.jQ _ _ _ _).other2 h.back (by decide) (by decide) hq hu
  jr:=(Jn.jQ _ _ _ _ _ _ _).out hj (fun j _ hs=>by rw[zx hs.2];exact hs.1)
  ix:=(Ix.jQ _ _ _ _).other2 h.ix (by decide) (by decide) hq hu
  ss:=(Ss.jQ _ _).other2 h.ss (by decide) (by decide) hq hu
  lg:=(Lg.jQ _ _ _).other2 h.lg (by decide) (by decide) hq hu
  ck:=(Ck.jQ _ _ _ _ _ _ _).other2 h.ck (by decide) (by decide) hq hu
  sm:=(Mp.jQ _ _ _).other2 h.sm (by decide) (by decide) hq hu
  far:=(Did.step2 h.far (t:=2) (s:=4) (by decide) (by decide) (by decide) (by decide) hq hu).far
  nib:=h.nib.keep hu (fun hs=>by rcases hs with(hs|hs)|hs;rw[h.on]at hs;exact absurd hs (by decide);exact absurd h.nib.lt (by omega);exact absurd (h.on.symm.trans ((congrArg own hs).trans hq)) (by decide))
  tur:=h.tur.keep hu (fun hs=>by rcases hs with(hs|hs)|hs;rw[h.ot]at hs;exact absurd hs (by decide);exact absurd h.tur.lt (by omega);exact absurd (h.ot.symm.trans ((congrArg own hs).trans hq)) (by decide))
  on:=(zx h.nib.lt).trans h.on
  ot:=(zx h.tur.lt).trans h.ot
  fl:=hl.trans h.fl}
abbrev CaS.dev(a:CaS)(r:DRes):CaS:={a with dF:=r.F,dO:=r.O,dP:=r.P}
abbrev CaS.jy(a:CaS)(r:DRes):CaS:={a with bF:=r.F,bO:=r.O,bP:=r.P}
theorem ZK(h:CaAt own w c n p a)(s:Nat)(hs:s<a.dF.length)(x:Bk)(hx:x.length=64)(hO:a.dO.length<65536):
  Calls prog 18 #[ptr p.ssd,.int .i64 (s:Int),.agg (bkC x).toArray] w (zu own w c n p (a.dev (writeR a.dF a.dO a.dP s x)) (.int .i64 (writeR a.dF a.dO a.dP s x).cd)):=
 (wZ h.jP (fun _ h=> .inr h) s hs x hx hO).mono fun _ _ ⟨he,hd,hu⟩=>⟨he,_,h.jM hu hd (by rw[yu]),h.did2 hu⟩
theorem xI(h:CaAt own w c n p a)(s:Nat)(hs:s<a.bF.length)(x:Bk)(hx:x.length=64)(hO:a.bO.length<65536):
  Calls prog 18 #[ptr p.back,.int .i64 (s:Int),.agg (bkC x).toArray] w (zu own w c n p (a.jy (writeR a.bF a.bO a.bP s x)) (.int .i64 (writeR a.bF a.bO a.bP s x).cd)):=
 (wZ h.open3 (fun _ h=> .inr h) s hs x hx hO).mono fun _ _ ⟨he,hd,hu⟩=>⟨he,_,h.turn3 hu hd (by rw[yu]),h.did3 hu⟩
def ZL(own:Nat->Nat)(w:World)(c:Nat)(n:CaN)(p:CaP)(a:CaS)(y0:Bk)(cd0:Int)(e:Ending)(w':World):Prop:=
 ∃(y:Bk) (cd:Int),y=y0/\cd=cd0/\y.length=64/\e=.returned (.tuple #[.agg (bkC y).toArray,.int .i64 cd])/\∃own',CaAt own' w' c n p a/\Did own own' w w'
theorem tI(h:CaAt own w c n p a)(s:Nat)(hs:s<a.dF.length):
  Calls prog 67 #[ptr p.ssd,.int .i64 (s:Int)] w (ZL own w c n p {a with dP:=a.dP.tail} (if fate a.dP=1 then zB else curB a.dF a.dO s) (if fate a.dP=1 then 19 else 0)):=
 (vL h.jP (fun _ h=> .inr h) s hs).mono fun _ _ ⟨y,cd,he,hy,hc,hl,hd,hu⟩=>⟨y,cd,hy,hc,hl,he,_,h.jM hu hd rfl,h.did2 hu⟩
theorem ZM(h:CaAt own w c n p a)(s:Nat)(hs:s<a.bF.length):
  Calls prog 67 #[ptr p.back,.int .i64 (s:Int)] w (ZL own w c n p {a with bP:=a.bP.tail} (if fate a.bP=1 then zB else curB a.bF a.bO s) (if fate a.bP=1 then 19 else 0)):=
 (vL h.open3 (fun _ h=> .inr h) s hs).mono fun _ _ ⟨y,cd,he,hy,hc,hl,hd,hu⟩=>⟨y,cd,hy,hc,hl,he,_,h.turn3 hu hd rfl,h.did3 hu⟩
theorem Xb(h:CaAt own w c n p a):Calls prog 232 #[ptr p.jr] w (zu own w c n p a (.int .i64 ((n.jo:Int)-((a.next:Int)-1-(a.cov:Int))))):=
 (EF h.jr).mono fun _ _ ⟨he,hu⟩=>⟨he,own,h.new hu,h.ji hu⟩
theorem ZN(h:CaAt own w c n p a)(hroom:a.next<=a.cov+n.jo)(hmx:a.next<=1099511627776)(a0 a1 op block slot:Int)(db:Bool)(sum:Int)(hmay:mayR (jaddX a.next n.jo op block slot db sum)=true):
  Calls prog 239 #[ptr p.jr,.agg (recC a0 a1 op block slot db sum).toArray] w (zu own w c n p {a with next:=a.next+1,W:=a.W++[(a.next,sectR (jaddX a.next n.jo op block slot db sum))]} (.tuple #[.int .i64 (a.next:Int),.int .i64 0])):=
 (zcN h.open4 (fun _ h=> .inr h) h.nib (fun hs=>by rcases hs with hs|hs;rw[h.on]at hs;exact absurd hs (by decide);exact absurd h.nib.lt (by omega)) hroom hmx a0 a1 op block slot db sum hmay).mono fun _ _ ⟨he,hj,hu⟩=>⟨he,_,h.turn4 hu hj,h.did4 hu⟩
abbrev CaS.com(n:CaN)(a:CaS):DRes×List (Nat×Bk):=comR (1+2*n.pa) n.jo a.dF a.dO a.dP a.W
theorem Ra(base k:Nat)(F:List Bk)(O:List (Nat×Bk))(P:List Int)(W:List (Nat×Bk)):(comR base k F O P W).1.F.length=F.length:=by
 unfold comR
 repeat' split
 all_goals simp only[qU,Wj]
theorem UT(h:CaAt own w c n p a)(h1:∀q∈a.W,1<=q.1)(hO:a.dO.length+a.W.length<=65536):
  Calls prog 101 #[ptr p.jr] w (zu own w c n p {a.dev (a.com n).1 with W:=(a.com n).2} (.int .i64 (a.com n).1.cd)):=by
 obtain⟨vw,hj,hS⟩:=h.jr;have hfl:=h.fl;have hz:=h.ok.z;unfold CaN.size at hfl;refine(JI hj h1 h.jP (fun _ h=> .inr h) ?_ (by omega) hO).mono ?_
 .intro k hk hs;have h4:=hS k hk;rcases hs with hs|hs
  .rw [h4]at hs;exact absurd hs (by decide)
  .have:=hj.slt k hk;omega
 .rintro e w' ⟨rfl,hd,⟨vw',hj',hv⟩,hu⟩;have hq:=h.jrOwn.1;refine⟨rfl,_,h.turn24 hu hd (Ra _ _ _ _ _ _) ⟨vw',hj',?_⟩,Did.step2 h.far (by decide) (by decide) (by decide) (by decide) hq hu⟩;rintro k (rfl|hk)
  .exact ⟨hS _ (.inl rfl),zf hj.str⟩
  .rcases hv with rfl|hv
   .exact ⟨hS _ (.inr hk),hj.slt k (.inr hk)⟩
   .rw [hv]at hk;cases hk
end
theorem JJ{w:World}{b mb N:Nat}{v:Value}{ps:List (Int×Bool)}{slots:Nat}(h:IndexAt w b v mb N ps slots)(k s:Int)(d:Bool)(ho:k<0\/(ps.length:Int)<=k\/s<0\/(slots:Int)<=s):
  Calls prog 203 #[.pointer (some ⟨b,0,none⟩),.int .i64 k,zJ s d] w fun e w'=>e=.returned (.tuple #[zJ 0 false,.int .i64 10])/\Below w.heap.size w w':=by
 have hu:Upd (fun _=>False) w ((w.alloc (.cells #[.int .i64 s,.bool d] 95)).alloc (.cells #[.int .i64 0,.bool false] 95)):=((uur _ _).alloc _).alloc _;have hbl:=h.blt;have hle:=h.le;have hsl:=h.sl1;have g0:=(hu.cellAt (o:=0) hbl (fun h=>h)).trans (za h.str 0);have g2:=(hu.cellAt (o:=2) hbl (fun h=>h)).trans (za h.str 2);simp at g0 g2;obtain⟨ao,c,rfl⟩:=h.sl.rd.jd;clear h hu;have ho':k<0\/(¬k<0/\(ps.length:Int)<=k)\/(¬k<0/\¬(ps.length:Int)<=k/\s<0)\/(¬k<0/\¬(ps.length:Int)<=k/\¬s<0/\(slots:Int)<=s):=by omega
 clear ho;rcases ho' with h1|⟨h1,h2⟩|⟨h1,h2,h3⟩|⟨h1,h2,h3,h4⟩
 case' inr.inl=>
  have d1:decide (k<0)=false:=by simpa using h1
  have d2:decide ((ps.length:Int)<=k)=true:=by simpa using h2
 case' inr.inr.inl=>
  have d1:decide (k<0)=false:=by simpa using h1
  have d2:decide ((ps.length:Int)<=k)=false:=by simpa using h2
  have d3:decide (s<0)=true:=by simpa using h3
 case' inr.inr.inr=>
  have d1:decide (k<0)=false:=by simpa using h1
  have d2:decide ((ps.length:Int)<=k)=false:=by simpa using h2
  have d3:decide (s<0)=false:=by simpa using h3
  have d4:decide ((slots:Int)<=s)=true:=by simpa using h4
 all_goals
  go_enter func203,ntmps203
  go_wp2
  go_quiet(fail)
  clear g0 g2;generalize hw3:(((w.alloc (.cells #[.int .i64 s,.bool d] 95)).alloc (.cells #[.int .i64 0,.bool false] 95)).drewN nq)=w3;have hb3:Below w.heap.size w w3:=by rw[<-hw3];exact zV (((qxl _ _).alloc (qXv _) _).alloc (by simp) _) _
  have hrx:w3.heap[w.heap.size+1]?=some (.cells #[.int .i64 0,.bool false] 95):=by rw[<-hw3];exact zc _ _ (by simp)
  clear hw3;obtain⟨r0,r1,f0,f1⟩:=qQ _ _ hrx;have Y:=qqh (qR _ _ hrx);clear hrx;go_wp2
  refine qYw (v:=.tuple #[zJ 0 false,.int .i64 10]) ?_ rfl ⟨rfl,uV hb3 _ (by omega) _ _⟩;simp[results,results203,go_sem,Y.out.1,Y.out.2]
theorem qh{ps:List (Int×Bool)}{n:Nat}(h:n<ps.length):ps.getD n (-1,false)=ps[n]:=by simp[List.getD,h]
theorem uw{w:World}{b mb N:Nat}{v:Value}{ps:List (Int×Bool)}{slots:Nat}(h:IndexAt w b v mb N ps slots)(k:Int):
  Calls prog 100 #[.pointer (some ⟨b,0,none⟩),.int .i64 k] w fun e w'=>e=.returned (.tuple #[zJ (getV ps k).1 (getV ps k).2,.int .i64 (getC ps k)])/\Below w.heap.size w w':=by
 by_cases ho:k<0\/(ps.length:Int)<=k
 .simp only[getV,getC,if_pos ho];exact Jr h k ho
 .obtain ⟨n,rfl⟩:∃n:Nat,k=n:=⟨k.toNat,by omega⟩
  have hn:n<ps.length:=by omega
  simp only[getV,getC,if_neg ho,qxu,qh hn];rcases h.good.each n hn with e|e
  .simp only[e,if_true];exact QI h n hn e
  .have h1:ps[n].1≠-1:=by omega
   have h2:ps[n]≠(-1,false):=fun e=>h1 (by rw[e]);simp only[if_neg h2];exact YR h n hn h1
theorem JK{w:World}{b mb N:Nat}{v:Value}{ps:List (Int×Bool)}{slots:Nat}(h:IndexAt w b v mb N ps slots)(k s:Int)(d:Bool)(hN:N<maxLen):
  Calls prog 203 #[.pointer (some ⟨b,0,none⟩),.int .i64 k,zJ s d] w fun e w'=>e=.returned (.tuple #[zJ (ut ps slots k s).1 (ut ps slots k s).2,.int .i64 (putC ps slots k s)])/\
   IndexAt w' b v mb (N+1) (putL ps slots k s d) slots/\Upd (ixS v mb) w w':=by
 by_cases ho:k<0\/(ps.length:Int)<=k\/s<0\/(slots:Int)<=s
 .have e:putC ps slots k s=10:=by unfold putC;rw[if_pos ho]
  simp only[ut,putL,e,if_neg (show¬(10:Int)=0 by decide)];exact(JJ h k s d ho).mono fun e w' ⟨he,hb⟩=>⟨he,(h.below hb).mono (qXw _),uuo hb⟩
 .obtain ⟨n,rfl⟩:∃n:Nat,k=n:=⟨k.toNat,by omega⟩
  have hn:n<ps.length:=by omega
  by_cases hm:mayPut ps n s
  .have e:putC ps slots n s=0:=by
    unfold putC;rw[if_neg ho,if_pos (by simpa[mayPut]using hm)]
   simp only[ut,putL,e,if_true,qxu,qh hn];exact Am h n s d hn (by omega) (by omega) hm hN
  .have e:putC ps slots n s=15:=by
    unfold putC;rw[if_neg ho,if_neg (by simpa[mayPut]using hm)]
   simp only[ut,putL,e,if_neg (show¬(15:Int)=0 by decide)];exact(UP h n s d hn (by omega) (by omega) hm).mono fun e w' ⟨he,hb⟩=>⟨he,(h.below hb).mono (qXw _),uuo hb⟩
theorem Rb{α:Type}{l:List α}{i:Nat}{x:α}(h:l[i]?=some x):l.set i x=l:=by
 obtain⟨hi,rfl⟩:=qyp.1 h;exact List.set_getElem_self hi
def dropL(ps:List (Int×Bool))(k:Int):List (Int×Bool):=if getC ps k=0 then ps.set k.toNat (-1,false)else ps
def cleanL(ps:List (Int×Bool))(k:Int):List (Int×Bool):=if getC ps k=0 then ps.set k.toNat ((getV ps k).1,false)else ps
theorem uX{ps:List (Int×Bool)}{slots:Nat}(h:Good ps slots){k:Int}(hc:getC ps k=0):∃(n:Nat) (hn:n<ps.length),k=n/\0<=ps[n].1/\ps[n].1<slots/\getV ps k=ps[n]:=by
 unfold getC at hc;by_cases ho:k<0\/(ps.length:Int)<=k
 .rw [if_pos ho]at hc;cases hc
 .rw [if_neg ho]at hc;obtain⟨n,rfl⟩:∃n:Nat,k=n:=⟨k.toNat,by omega⟩
  have hn:n<ps.length:=by omega
  simp only[qxu,qh hn]at hc;by_cases e:ps[n]=(-1,false)
  .simp [e]at hc
  .refine ⟨n,hn,rfl,?_,?_,?_⟩
   .rcases h.each n hn with e'|e';exact absurd e' e;exact e'.1
   .rcases h.each n hn with e'|e';exact absurd e' e;exact e'.2
   .simp only[getV,if_neg ho,qxu,qh hn,if_neg e]
theorem qV{ps:List (Int×Bool)}{k:Int}(hc:getC ps k≠0):getV ps k=(0,false):=by
 unfold getC at hc;unfold getV;split
 .rfl
 .rename_i h
  rw[if_neg h]at hc;split
  .rfl
  .rename_i h2
   rw[if_neg h2]at hc;exact absurd rfl hc
theorem UU{w:World}{b mb N:Nat}{v:Value}{ps:List (Int×Bool)}{slots:Nat}(h:IndexAt w b v mb N ps slots)(k:Int):
  Calls prog 241 #[.pointer (some ⟨b,0,none⟩),.int .i64 k] w fun e w'=>e=.returned (.int .i64 (getC ps k))/\
   IndexAt w' b v mb N (cleanL ps k) slots/\Upd (ixS v mb) w w':=by
 have H:=qqh h;by_cases hc:getC ps k=0
 .obtain ⟨n,hn,rfl,h0,h1,hv⟩:=uX h.good hc;have hL:Hid (cleanL ps n=ps.set n (ps[n].1,false)):=by show _=_;simp[cleanL,hc,hv]
  have hV:=qqh hv;have hle:=h.le;clear hv h;have hC:=hc;rw[hc];clear hc;go_enter func241,ntmps241
  go_wp2_with fail
  refine(uw H.o n).mono ?_;rintro e w1 ⟨rfl,hb1⟩;have hz1:=hb1.size;have hu1:Upd (fun _=>False) w (w1.alloc (.cells #[.int .i64 ps[n].1,.bool ps[n].2] 95)):=(uuo hb1).alloc _;have hI:=H.o.keep hu1 (fun h=>h) (fun _ _ h=>h);have t0:=za hI.str 0;simp at t0;obtain⟨g,off,cap,cur,rfl,hg,_,hcc⟩:=hI.sl.at (by omega);have e1:=(za hg (off+n*2+1)).trans (hcc (n*2+1) _ (xF hn).2);have f1:=zg hg (off+n*2+1);have hc0:(getC ps n==0)=true:=by simpa using hC
  have HI:=qqh hI;have HU:=qqh hu1;rw[hC,hV.out];clear hg hcc hI hu1 hc0;go_wp2
  go_ret
  have hS:=HI.o.sl.setAt (n*2+1) (by omega) (.bool false);rw[<-qXr off]at hS;have hus:Upd (fun j=>j=g) (w1.alloc (.cells #[.int .i64 ps[n].1,.bool ps[n].2] 95)) ((w1.alloc (.cells #[.int .i64 ps[n].1,.bool ps[n].2] 95)).setCell ⟨g,off+n*2+1,none⟩ (.bool false)):=zj _ _ _ _;have hgb:g≠b:=fun e=>HI.o.ne (by rw[e];rfl);have hgm:g≠mb:=fun e=>HI.o.nv (by rw[e];rfl);rw[hL.out];refine⟨rfl,{str:=(hus.block _ HI.o.blt (fun e=>hgb e.symm)).trans HI.o.str,sl:=?_,map:=?_,good:=HI.o.good.clean hn h0,ne:=HI.o.ne,nm:=HI.o.nm,nv:=HI.o.nv,le:=by simpa using hle,sl1:=HI.o.sl1},?_⟩
  .rw [<-ZA,qzj];have e2:(plC ps).set (n*2) (.int .i64 ps[n].1)=plC ps:=Rb (xF hn).1;rw[e2];simpa using hS
  .rw [HI.o.good.atOf_clean hn h0];exact HI.o.map.keep hus (fun e=>hgm e.symm)
  .exact (HU.o.mono (fun _ _ h=>h.elim)).trans (hus.mono (fun j _ e=> .inl (by rw[e];rfl)))
 .have hL:cleanL ps k=ps:=by simp[cleanL,hc]
  rw[hL];obtain⟨c,hcc⟩:=qqe (getC ps k);obtain⟨z,hz⟩:=qqe (getV ps k);rw[<-hcc]at hc;rw[<-hcc];have hc':(c==0)=false:=by simpa using hc
  clear hL h;have HG:=qqh (uw H.o k);rw[<-hcc,<-hz]at HG;clear hcc hz;go_enter func241,ntmps241
  go_wp2_with fail
  refine HG.o.mono ?_;rintro e w1 ⟨rfl,hb1⟩;go_wp2
  go_ret
  exact⟨rfl,(H.o.below hb1).keep ((uur (fun _=>False) _).alloc _) (fun h=>h) (fun _ _ h=>h),(uuo hb1).alloc _⟩
end Go.Proofs.YtfhfbpmlnjdfoaaGreatDoor
