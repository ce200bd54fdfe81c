/- A journal: Roo -/
import Derived.Test.YtfhfbpmlnjdfoaaGreatDoorG15
set_option maxRecDepth 100000
set_option maxHeartbeats 4000000
namespace Go.Proofs.YtfhfbpmlnjdfoaaGreatDoor
open Go Go.RowKit Tryz
attribute [local go_sem↓] Zy Wv qR Zz Go.wp_at_zero Go.wp_at_succ
theorem Ac{S:Nat->Prop}{w:World}{j d base n cov next:Nat}{W:List (Nat×Bk)}(h:Jn S w j d base n cov next W):
  Calls prog 232 #[.pointer (some ⟨j,0,none⟩)] w fun e w'=>e=.returned (.int .i64 ((n:Int)-((next:Int)-1-(cov:Int))))/\Upd (fun _=>False) w w':=by
 obtain⟨v,h,-⟩:=h;obtain⟨-,-,c2,c3,c4,-⟩:=h.c;obtain⟨-,-,hn,hwl,hrm,hmx,-⟩:=h.good;have q1:IntKind.i64.wrap ((next:Int)-1)=(next:Int)-1:=qxv _ oM;have q2:IntKind.i64.wrap ((next:Int)-1-(cov:Int))=(next:Int)-1-(cov:Int):=qxv _ oM;have q3:IntKind.i64.wrap ((n:Int)-((next:Int)-1-(cov:Int)))=(n:Int)-((next:Int)-1-(cov:Int)):=qxv _ oM;clear h hn hwl hrm hmx;go_enter func232,ntmps232
 go_wp2
 go_quiet(fail)
 go_wp2
 go_ret
 exact⟨rfl,(uur _ _).drewN nq⟩
theorem wZ{w:World}{g i k:Nat}{v u:Value}(h:w.cell? ⟨g,i,none⟩=some v)(hne:¬k=i):(w.setCell ⟨g,k,none⟩ u).cell? ⟨g,i,none⟩=some v:=by
 rw[World.cell?_setCell_other _ _ _ _ (fun e=>hne (congrArg Addr.off e)),h]
abbrev jaddX(next n:Nat)(op block slot:Int)(d:Bool)(sum:Int):List Int:=recX (next:Int) (((next-1)/n:Nat):Int) op block slot d sum
theorem JnGood.add{base n cov next:Nat}{W:List (Nat×Bk)}(h:JnGood base n cov next W)(hroom:next<=cov+n)(hmx:next<=1099511627776){y:Bk}(hy:y.length=64):JnGood base n cov (next+1) (W++[(next,y)]):=
 ⟨fun p hp=>by rcases qzq.1 hp with h1|h1;exact h.w64 p h1;simp at h1;subst h1;exact hy,
  fun p hp=>by rcases qzq.1 hp with h1|h1;have:=h.lt p h1;omega;simp at h1;subst h1;simp,
  h.n1,by have:=h.wl;simp;omega,oM,oM,h.bs⟩
def JX(S:Nat->Prop)(w:World)(j d base n cov next:Nat)(W:List (Nat×Bk))(y:Bk)(e:Ending)(w':World):Prop:=
 e=.returned (.tuple #[.int .i64 (next:Int),.int .i64 0])/\Jn S w' j d base n cov (next+1) (W++[(next,y)])/\Upd S w w'
theorem zdI{S:Nat->Prop}{w:World}{j d base n cov next:Nat}{W:List (Nat×Bk)}(h:Jn S w j d base n cov next W)(hn:∀k,w.heap.size<=k->S k)(hN:Nib w)(hSN:¬S 0)(hroom:next<=cov+n)(hmx:next<=1099511627776)
  (a0 a1 op block slot:Int) (db:Bool) (sum:Int) (hmay:mayR (jaddX next n op block slot db sum)=true):
  Calls prog 239 #[.pointer (some ⟨j,0,none⟩),.agg (recC a0 a1 op block slot db sum).toArray] w (JX S w j d base n cov next W (sectR (jaddX next n op block slot db sum))):=by
 obtain⟨vw,h,hS⟩:=h;have hgd:=h.good;obtain⟨w1,hw1⟩:=qqe (w.alloc (.cells (recC a0 a1 op block slot db sum).toArray 101));have hu1:=qqu hw1;have hg1:=qqg hw1;have HRm:=qqh (Ac (S:=EY j vw) ⟨vw,h.new hu1,fun _ h=>h⟩);have q0:((n:Int)-((next:Int)-1-(cov:Int))==0)=false:=by have:=hgd.wl;simp;omega
 have q00:¬(n:Int)-((next:Int)-1-(cov:Int))=0:=by have:=hgd.wl;omega
 have q4:¬1099511627776<(next:Int):=oM;have hn1:=hgd.n1;have hnx:1<=next:=by have:=hgd.wl;omega
 have H:=Y10 h hS hn hN hSN hroom hmx hmay hu1 hg1;have HW1:=qqh hw1;clear h hS hn hN hSN hroom hmay hu1 hg1 hw1 hgd;go_enter func239,ntmps239
 go_wp2_with fail
 rw[<-HW1.o];refine HRm.out.mono ?_;rintro e w2 ⟨rfl,hu2⟩;obtain⟨h,hS,hn,hN,hSN,hroom,-,hmay,hu1,hg1⟩:=H.o;have hu12:=hu1.trans hu2;have h2:=h.new hu12;have hg2:=hu2.j6 hg1;obtain⟨-,-,c2,-,c4,-⟩:=h2.c;obtain⟨m,hm⟩:=qqe (w.heap.size);have hjm:¬j=m:=by have:=zf h.str;omega
 rw[<-hm]at hg2;have b0:w2.cell? ⟨m,0,none⟩=some (.int .i64 a0):=za hg2 0;have b1:w2.cell? ⟨m,1,none⟩=some (.int .i64 a1):=za hg2 1;have f0:=zg hg2 0;have f1:=zg hg2 1;have H2:=Y4 h2 hg2 hu12 hm;have r1:IntKind.i64.wrap ((next:Int)-1)=(next:Int)-1:=qxv _ oM;obtain⟨lp,hlp⟩:=qqe ((next-1)/n);have hlp1:lp<=next-1:=by rw[hlp];exact Nat.div_le_self _ _
 have r2:IntKind.i64.wrap (((next:Int)-1).tdiv (n:Int))=(lp:Int):=by
  rw[show(next:Int)-1=((next-1:Nat):Int) by omega,<-Int.ofNat_tdiv,<-hlp];exact qxv _ oM
 have hn0:¬n=0:=oM;have g21:=zi hg2 0 (.int .i64 (next:Int));have b11:(w2.setCell ⟨m,0,none⟩ (.int .i64 (next:Int))).cell? ⟨m,1,none⟩=some (.int .i64 a1):=za g21 1;have f11:=zg g21 1;have HLp:=qqh hlp;have hu21:=zj w2 m 0 (.int .i64 (next:Int));have H21:=Y2 g21 hu21;rw[<-hm];clear hlp hlp1 g21 hu21;clear h hS hn hN hSN hroom hmay hu1 hg1 hu12 h2 hg2 hu2 hm HRm;go_upto_region 7 with fail
 refine qZj (S:=fun W=>W.cell? ⟨j,2,none⟩=some (.int .i64 (n:Int))/\W.cell? ⟨j,4,none⟩=some (.int .i64 (next:Int))) kR (by(simp only[qYo]);exact⟨c2,c4⟩) (fun hHeld=>?_);refine Wl.i [0,1,2,3,4,5,6,7,8,9,10,11,12,13,14] ?_;iterate 15 refine Wl.t hHeld ?_
 refine Wl.o ?_;refine Wl.r 15 (fun K hK=>?_);go_simp
 refine hK.o _ _ (⟨zu hHeld.1 (fun e=>hjm e.symm),zu hHeld.2 (fun e=>hjm e.symm)⟩) (fun hH1=>?_);clear hK K;refine Wl.i [16] (Wl.t hH1 (Wl.o ?_));refine Wl.r 17 (fun K hK=>?_);go_simp
 refine hK.o _ _ (⟨zu hH1.1 (fun e=>hjm e.symm),zu hH1.2 (fun e=>hjm e.symm)⟩) (fun hH2=>?_);clear hK K;refine Wl.d ?_;clear hHeld hH1 hH2 c2 c4 b0 b1 f0 f1 r1 r2 hn0 b11 f11;obtain⟨w3,hw3⟩:=qqe (((w2.setCell ⟨m,0,none⟩ (.int .i64 (next:Int))).setCell ⟨m,1,none⟩ (.int .i64 (lp:Int))).drew);rw[<-hw3];have hu3:Upd (fun k=>k=m) w2 w3:=by rw[hw3];exact(H21.o.2.trans (zj _ m 1 _)).drew
 have hg3:w3.heap[m]?=some (.cells (recC (next:Int) (lp:Int) op block slot db sum).toArray 101 (0,0)):=by
  rw[hw3];exact(((uur (fun _=>False) _).drew).j6 (zi H21.o.1 1 (.int .i64 (lp:Int)))).trans oe
 obtain⟨h,hS,hn,hN,hSN,hroom,-,hmay,hu1,hg1⟩:=H.o;obtain⟨h2,hg2,hu12,hm⟩:=H2.o;have hjs:∀k,EY j vw k->¬k=m:=fun k hk e=>by have:=h.slt k hk;omega
 have h3:=h2.keep hu3 hjs;have hN3:Nib w3:=(hN.keep hu12 id).keep hu3 (fun e=>by have:=hN.lt;omega);obtain⟨y,hy⟩:=qqe (sectR (recX (next:Int) (lp:Int) op block slot db sum));have hyl:y.length=64:=by rw[hy];exact uY rfl
 have HP:=qqh (Qx hN3 (recC (next:Int) (lp:Int) op block slot db sum) rfl (recX (next:Int) (lp:Int) op block slot db sum) rfl (fun W=>zcv _ _ _ _ _ _ _ W));have hmay':mayR (recX (next:Int) (lp:Int) op block slot db sum)=true:=by rw[HLp.out];exact hmay
 have rX:=zh hg3;have H3:=Y7 h3 hg3 hu3 hjs hmay' hy hyl;clear h hS hn hN hSN hroom hmay hu1 hg1 h2 hg2 hu12 hm hjs h3 hN3 hmay' hy hw3 hu3 hg3;go_wp2_with (first
  |(refine qZg rfl _ _ rfl _ _ rfl _ _ rX underlying101 rfl (by rw[show(recC (next:Int) (lp:Int) op block slot db sum).length=7 from rfl];exact infoThR) ?_)
  |fail)
 refine HP.o.mono ?_;rintro e w4 ⟨he,hb4⟩;obtain rfl:e=.returned (.tuple #[.agg (bkC y).toArray,.int .i64 0]):=by
  rcases he with⟨-,he⟩|⟨hf,-⟩
  .rw [he,H3.o.2.2.2.2.2.1]
  .rw [H3.o.2.2.2.2.1]at hf;cases hf
 have hu4:=qqb hb4;obtain⟨w5,hw5⟩:=qqe (w4.alloc (.cells (bkC y).toArray 54));have hu5:=qqu hw5;have hg5:=qqg hw5;have hu35:=hu4.trans hu5;have h5:=H3.o.1.new hu35;have hyl:=H3.o.2.2.2.2.2.2;have siY:=qqh (zw y hyl);have oneY:=qqh (zx y);have lnY:Hid ((bkC y).length=64):=by show _=_;rw[zo,hyl]
 obtain⟨i,z,hi,hz,hzs,hsz,hby⟩:=xK;have hu:Upd (fun _=>False) w5 (w5.alloc (.cells (wrC (next:Int) y).toArray 289)).drew:=((uur _ _).alloc _).drew;have hd:=h5.new hu;have hrd:Rd (w5.alloc (.cells (wrC (next:Int) y).toArray 289)).drew 65 (.slice (some ⟨w5.heap.size,0,none⟩) 1 1) 1 (wrC (next:Int) y):=
  Rd.keep (Rd.fresh w5 (wrC (next:Int) y) 289 1 (by rw[wrC_len,hyl]) og) ((uur (fun _=>False) _).drew) (fun _ _ h=>h)
 have hWl:W.length<=1024:=by have:=H.o.1.good;have:=this.wl;have:=H.o.2.2.2.2.2.1;omega
 obtain⟨v',w6,hrun,hs1,hu6,hbf⟩:=yl 274 274 i z 72 underlying274 hi hz hsz hby hzs de hd.ws hrd (ug (next:Int) y) og oM;rw[<-YA]at hs1;have hln:W.length+1=(W++[(next,y)]).length:=oe;rw[hln]at hs1;obtain⟨ao1,c1',rfl⟩:=hs1.rd.j7;have hstr6:=(hu6.block j (zf hd.str) (fun e=>hd.wb e)).trans hd.str;have k5:=za hstr6 5;have z5:=zg hstr6 5;have k4:=za hstr6 4;simp at k4 k5;obtain⟨-,-,-,-,c4,c5⟩:=h5.c;have hg5m:=hu35.j6 H3.o.2.1;have rY:=zh hg5;have hbl:=UV (next:Int) y hyl;have hut:=underlying54;have hsi:=zw y hyl;have hlx:(bkC y).length=64:=by rw[zo,hyl]
 have h1x:=zx y;obtain⟨p6,hp6⟩:=qqe (w4.heap.size);rw[<-hp6]at rY hg5;have hvlt:∀g,vw.ownBlock=some g->g<w.heap.size:=fun g hg=>H.o.1.ws.lt hg;have hmw:=H2.o.2.2.2;have hsz4:w.heap.size<w4.heap.size:=by
  have h1:=zf H3.o.2.1;have h2:=hu4.size;omega
 have q4:=hu6.j4 (zm c4 _) (fun e=>hd.wb e);have qY:=hu6.range (qYp rY _) (fun e=>by have:=hvlt _ e;omega);have hjp:¬j=p6:=by have:=zf H.o.1.str;omega
 have d5:=zm c5 (.cells (wrC (next:Int) y).toArray 289);have n4:=World.new_ne w5 _ c5;have HX:=Y9 hbf hu hu6 hs1 hstr6 hu35 hg5m hvlt hsz4;have HW5:=qqh hw5;have HP6:=qqh hp6;clear hbf hu hu6 hs1 hstr6 hu35 hg5m hvlt hsz4 hd hrd hb4 he hu4 hu5 h5 hw5 rX hln hmw hp6 hWl;go_wp2_with (first
  |(refine zl rfl _ _ _ rfl _ _ _ rfl rfl (by rw[lnY.out];rfl) siY.out oneY.out ?_)
  |fail)
 rw[<-HW5.o,<-HP6.o];refine qZj (S:=fun W=>W.cell? ⟨j,4,none⟩=some (.int .i64 (next:Int))/\W.rangeAt p6 0 (bkC y)) kR (⟨by rw[qYo];exact c4,by rw[qYq];exact rY⟩) (fun hHeld=>?_);refine Wl.i [0,1,2,3,5,6,7,8] ?_;iterate 8 refine Wl.t hHeld ?_
 refine Wl.o ?_;refine Wl.l 9 (fun w h=>h.2) hut hsi hHeld ?_;refine Wl.i [10] (Wl.t hHeld (Wl.o ?_));refine qZe (rs:=[4,11]) kR oe ?_;refine qxb rfl (fun K hK=>?_) (qxb rfl (fun K hK=>?_) qxc)
 .go_simp
  refine hK.o _ _ ((by(go_split_ands;(simp only[qYq,qYo]at*);((repeat' constructor)<;>first|assumption|(apply zm;assumption)|(refine zu ?_ ?_<;>assumption)|(refine zA ?_ ?_<;>assumption)|(apply qYp;assumption)|(apply qYt;assumption))))) (fun hH1=>?_);clear hK K;refine Wl.r 11 (fun K hK=>?_);go_simp
  refine hK.o _ _ ((by(go_split_ands;(simp only[qYq,qYo]at*);((repeat' constructor)<;>first|assumption|(apply zm;assumption)|(refine zu ?_ ?_<;>assumption)|(refine zA ?_ ?_<;>assumption)|(apply qYp;assumption)|(apply qYt;assumption))))) (fun hH2=>?_);clear hK K;refine Wl.r 12 (fun K hK=>?_);refine zJ rfl _ _ _ rfl rfl rfl hrun ?_;refine hK.o _ _ (⟨q4,qY⟩) (fun hH3=>?_);clear hK K;refine Wl.i [13,14] ?_;iterate 2 refine Wl.t hH3 ?_
  refine Wl.o ?_;refine Wl.r 15 (fun K hK=>?_);go_simp
  refine hK.o _ _ (⟨wZ hH3.1 de,zA hH3.2 hjp⟩) (fun _=>?_);clear hK K;refine Wl.d ?_;clear hH1 hH2 hH3 hHeld k5 z5 c4 c5 rY hbl hut hsi hlx h1x q4 qY d5 n4 hrun k4 hyl;obtain⟨hbf,hu,hu6,hs1,hstr6,hu35,hg5m,hvlt,hsz4⟩:=HX.o;have hl':(W++[(next,y)]).length=W.length+1:=oe;rw[hl']at hs1 hbf;obtain⟨u,hu0⟩:∃u:Value,u=.slice ao1 (W.length+1) c1':=⟨_,rfl⟩
  rw[<-hu0]at hs1 hbf;obtain⟨w7,hw7⟩:=qqe (w6.setCell ⟨j,5,none⟩ (.slice ao1 (W.length+1) c1'));rw[<-hw7];have hu7:Upd (fun k=>k=j) w6 w7:=by rw[hw7];exact zj _ _ _ _
  have g7:w7.heap[j]?=some (.cells #[.pointer (some ⟨d,0,none⟩),.int .i64 base,.int .i64 n,.int .i64 cov,.int .i64 next,u] 276 (0,0)):=by rw[hw7,hu0];exact(zi hstr6 5 _).trans oe
  have d4:w7.cell? ⟨j,4,none⟩=some (.int .i64 (next:Int)):=za g7 4;have z4:=zg g7 4;have hnm:¬m=j:=fun e=>hjm e.symm;have hg7m:=(hu7.block m (qXy (zf hg5m) (qXx hu.size hu6.size)) hnm).trans ((hu6.block m (qXy (zf hg5m) hu.size) (fun e=>by have:=hvlt m e;have:=H2.o.2.2.2;omega)).trans (hu.j6 hg5m));have m0:(w7.setCell ⟨j,4,none⟩ (.int .i64 ((next:Int)+1))).cell? ⟨m,0,none⟩=some (.int .i64 (next:Int)):=zu (za hg7m 0) (fun e=>hnm e.symm);have r1:IntKind.i64.wrap ((next:Int)+1)=(next:Int)+1:=qxv _ oM;have HY:=Y5 hs1 hbf hu7 g7 hu0;clear hbf hu hu6 hs1 hstr6 hu35 hg5m hvlt hsz4 hl' hu0 hw7 hu7 g7 hg7m hnm;go_wp2
  go_ret2
  obtain⟨hs1,hbf,hu7,g7,hu0⟩:=HY.o;obtain⟨-,hu,hu6,-,-,hu35,-,hvlt,hsz4⟩:=HX.o;obtain⟨h,hS,hn,-⟩:=H.o;have hU5:Upd S w w5:=((H2.o.2.2.1.mono fE).trans (H3.o.2.2.1.mono (fun k _ e=>hn k (by rw[e,H2.o.2.2.2];exact qXv _)))).trans (hu35.mono fE);have hU6:Upd S w w6:=hU5.trans ((hu.mono fE).trans (hu6.mono (fun k _ hk=>hS k (.inr hk))));have hub:u.ownBlock≠some j:=fun e=>by
   rcases hbf with h1|⟨g,h1,hle⟩
   .exact h.wb (by rw[<-h1];exact e)
   .rw [h1]at e;cases e;have:=zf h.str;have:=hU5.size;have:=hu.size;omega
  have hu8:Upd (fun k=>k=j) w7 (w7.setCell ⟨j,4,none⟩ (.int .i64 ((next:Int)+1))):=zj _ _ _ _;have hyy:sectR (jaddX next n op block slot db sum)=y:=by rw[H3.o.2.2.2.2.2.1,HLp.out]
  rw[hyy];refine⟨rfl,⟨u,⟨(zi g7 4 _).trans oe,?_,hub,h.good.add H.o.2.2.2.2.2.1 hmx H3.o.2.2.2.2.2.2⟩,?_⟩,hU6.trans ((hu7.trans hu8).mono (fun k _ e=>e▸hS j (.inl rfl)))⟩
  .rw [qzd];exact(hs1.kQ hu7 hub).kQ hu8 hub
  .rintro k (rfl|hk)
   .exact hS _ (.inl rfl)
   .rcases hbf with h1|⟨g,h1,hle⟩
    .exact hS _ (.inr (by rw[<-h1];exact hk))
    .rw [h1]at hk;cases hk;exact hn _ (by have:=hU5.size;have:=hu.size;omega)
 .go_simp
  refine hK.o _ _ ((by(go_split_ands;(simp only[qYq,qYo]at*);((repeat' constructor)<;>first|assumption|(apply zm;assumption)|(refine zu ?_ ?_<;>assumption)|(refine zA ?_ ?_<;>assumption)|(apply qYp;assumption)|(apply qYt;assumption))))) (fun hH1=>?_);clear hK K;refine Wl.r 4 (fun K hK=>?_);go_simp
  refine hK.o _ _ ((by(go_split_ands;(simp only[qYq,qYo]at*);((repeat' constructor)<;>first|assumption|(apply zm;assumption)|(refine zu ?_ ?_<;>assumption)|(refine zA ?_ ?_<;>assumption)|(apply qYp;assumption)|(apply qYt;assumption))))) (fun hH2=>?_);clear hK K;refine Wl.r 12 (fun K hK=>?_);refine zJ rfl _ _ _ rfl rfl rfl hrun ?_;refine hK.o _ _ (⟨q4,qY⟩) (fun hH3=>?_);clear hK K;refine Wl.i [13,14] ?_;iterate 2 refine Wl.t hH3 ?_
  refine Wl.o ?_;refine Wl.r 15 (fun K hK=>?_);go_simp
  refine hK.o _ _ (⟨wZ hH3.1 de,zA hH3.2 hjp⟩) (fun _=>?_);clear hK K;refine Wl.d ?_;clear hH1 hH2 hH3 hHeld k5 z5 c4 c5 rY hbl hut hsi hlx h1x q4 qY d5 n4 hrun k4 hyl;obtain⟨hbf,hu,hu6,hs1,hstr6,hu35,hg5m,hvlt,hsz4⟩:=HX.o;have hl':(W++[(next,y)]).length=W.length+1:=oe;rw[hl']at hs1 hbf;obtain⟨u,hu0⟩:∃u:Value,u=.slice ao1 (W.length+1) c1':=⟨_,rfl⟩
  rw[<-hu0]at hs1 hbf;obtain⟨w7,hw7⟩:=qqe (w6.setCell ⟨j,5,none⟩ (.slice ao1 (W.length+1) c1'));rw[<-hw7];have hu7:Upd (fun k=>k=j) w6 w7:=by rw[hw7];exact zj _ _ _ _
  have g7:w7.heap[j]?=some (.cells #[.pointer (some ⟨d,0,none⟩),.int .i64 base,.int .i64 n,.int .i64 cov,.int .i64 next,u] 276 (0,0)):=by rw[hw7,hu0];exact(zi hstr6 5 _).trans oe
  have d4:w7.cell? ⟨j,4,none⟩=some (.int .i64 (next:Int)):=za g7 4;have z4:=zg g7 4;have hnm:¬m=j:=fun e=>hjm e.symm;have hg7m:=(hu7.block m (qXy (zf hg5m) (qXx hu.size hu6.size)) hnm).trans ((hu6.block m (qXy (zf hg5m) hu.size) (fun e=>by have:=hvlt m e;have:=H2.o.2.2.2;omega)).trans (hu.j6 hg5m));have m0:(w7.setCell ⟨j,4,none⟩ (.int .i64 ((next:Int)+1))).cell? ⟨m,0,none⟩=some (.int .i64 (next:Int)):=zu (za hg7m 0) (fun e=>hnm e.symm);have r1:IntKind.i64.wrap ((next:Int)+1)=(next:Int)+1:=qxv _ oM;have HY:=Y5 hs1 hbf hu7 g7 hu0;clear hbf hu hu6 hs1 hstr6 hu35 hg5m hvlt hsz4 hl' hu0 hw7 hu7 g7 hg7m hnm;go_wp2
  go_ret2
  obtain⟨hs1,hbf,hu7,g7,hu0⟩:=HY.o;obtain⟨-,hu,hu6,-,-,hu35,-,hvlt,hsz4⟩:=HX.o;obtain⟨h,hS,hn,-⟩:=H.o;have hU5:Upd S w w5:=((H2.o.2.2.1.mono fE).trans (H3.o.2.2.1.mono (fun k _ e=>hn k (by rw[e,H2.o.2.2.2];exact qXv _)))).trans (hu35.mono fE);have hU6:Upd S w w6:=hU5.trans ((hu.mono fE).trans (hu6.mono (fun k _ hk=>hS k (.inr hk))));have hub:u.ownBlock≠some j:=fun e=>by
   rcases hbf with h1|⟨g,h1,hle⟩
   .exact h.wb (by rw[<-h1];exact e)
   .rw [h1]at e;cases e;have:=zf h.str;have:=hU5.size;have:=hu.size;omega
  have hu8:Upd (fun k=>k=j) w7 (w7.setCell ⟨j,4,none⟩ (.int .i64 ((next:Int)+1))):=zj _ _ _ _;have hyy:sectR (jaddX next n op block slot db sum)=y:=by rw[H3.o.2.2.2.2.2.1,HLp.out]
  rw[hyy];refine⟨rfl,⟨u,⟨(zi g7 4 _).trans oe,?_,hub,h.good.add H.o.2.2.2.2.2.1 hmx H3.o.2.2.2.2.2.2⟩,?_⟩,hU6.trans ((hu7.trans hu8).mono (fun k _ e=>e▸hS j (.inl rfl)))⟩
  .rw [qzd];exact(hs1.kQ hu7 hub).kQ hu8 hub
  .rintro k (rfl|hk)
   .exact hS _ (.inl rfl)
   .rcases hbf with h1|⟨g,h1,hle⟩
    .exact hS _ (.inr (by rw[<-h1];exact hk))
    .rw [h1]at hk;cases hk;exact hn _ (by have:=hU5.size;have:=hu.size;omega)
def comR(base n:Nat)(F:List Bk)(O:List (Nat×Bk))(P:List Int)(W:List (Nat×Bk)):DRes×List (Nat×Bk):=
 if(flushR F O P).cd≠0\/W=[]then(flushR F O P,W)
 else if(comW base n (flushR F O P).F W (flushR F O P).O (flushR F O P).P).cd≠0 then(comW base n (flushR F O P).F W (flushR F O P).O (flushR F O P).P,W)
 else if(flushR (comW base n (flushR F O P).F W (flushR F O P).O (flushR F O P).P).F (comW base n (flushR F O P).F W (flushR F O P).O (flushR F O P).P).O (comW base n (flushR F O P).F W (flushR F O P).O (flushR F O P).P).P).cd≠0 then
  (flushR (comW base n (flushR F O P).F W (flushR F O P).O (flushR F O P).P).F (comW base n (flushR F O P).F W (flushR F O P).O (flushR F O P).P).O (comW base n (flushR F O P).F W (flushR F O P).O (flushR F O P).P).P,W)
 else(flushR (comW base n (flushR F O P).F W (flushR F O P).O (flushR F O P).P).F (comW base n (flushR F O P).F W (flushR F O P).O (flushR F O P).P).O (comW base n (flushR F O P).F W (flushR F O P).O (flushR F O P).P).P,[])
theorem rf(F:List Bk)(O:List (Nat×Bk))(P:List Int):(flushR F O P).F.length=F.length:=by
 unfold flushR;split;rfl;split;exact zG _ _;rfl
def zaj(T:Nat->Prop)(w:World)(j:Nat)(vw:Value)(d base n cov next:Nat)(r:DRes×List (Nat×Bk))(e:Ending)(w':World):Prop:=
 e=.returned (.int .i64 r.1.cd)/\Dv T w' d r.1.F r.1.O r.1.P/\(∃vw',JnAt w' j vw' d base n cov next r.2/\(vw'=vw\/vw'.ownBlock=none))/\Upd (fun k=>T k\/k=j) w w'
theorem JY{T:Nat->Prop}{w:World}{j d base n cov next:Nat}{vw:Value}{W:List (Nat×Bk)}(h:JnAt w j vw d base n cov next W)(h1:∀p∈W,1<=p.1)
  {F:List Bk} {O:List (Nat×Bk)} {P:List Int} (hd:Dv T w d F O P) (hn:∀k,w.heap.size<=k->T k) (hT:∀k,EY j vw k->¬T k) (hbn:base+n<=F.length) (hO:O.length+W.length<=65536):
  Calls prog 101 #[.pointer (some ⟨j,0,none⟩)] w (zaj T w j vw d base n cov next (comR base n F O P W)):=by
 have hmf:=qqf;obtain⟨ao,c,rfl⟩:=h.ws.rd.j7;obtain⟨w1,hw1⟩:=qqe (w.alloc (.cells #[.pointer (some ⟨j,0,none⟩)] 166));have hu1:=qqu hw1;have hg1:=qqg hw1;obtain⟨m,hm⟩:=qqe (w.heap.size);have hmw1:w1.heap.size=m+1:=by rw[hw1,hm];simp
 have hd1:Dv (fun k=>T k/\k≠m) w1 d F O P:=(hd.but oM).keep hu1 (fun _ _ h=>h);have hn1:∀k,w1.heap.size<=k->T k/\k≠m:=fun k hk=>⟨hn k oM,oM⟩
 have h1j:=h.new hu1;have g0:=za hg1 0;rw[<-hm]at g0 hg1;obtain⟨c0,-,-,-,-,c5⟩:=h1j.c;have HF:=qqh (xo hd1 hn1);have hjm:∀k,EY j (.slice ao W.length c) k->¬(T k/\k≠m):=fun k hk ht=>hT k hk ht.1;have H:=Y11 h1j h1 hn1 hjm hbn hO hu1 hg1 hm hmw1 hT;have c0':=c0;rw[hw1]at c0';have HW1:=qqh hw1;have HM:=qqh hm;clear h h1 hd hn hT hbn hO hu1 hd1 hn1 h1j hg1 hjm hw1 hm hmw1;have g0':w1.cell? ⟨m,0,none⟩=some (.pointer (some ⟨j,0,none⟩)):=g0;go_enter func101,ntmps101
 go_wp2_with fail
 rw[<-HW1.o,<-HM.o];clear c0';refine HF.o.mono ?_;rintro e w2 ⟨rfl,hd2,hu2⟩;obtain⟨h1j,h1,hn1,hjm,hbn,hO,hu1,hg1,hm,hmw1,hT⟩:=H.o;have hl1:=rf F O P;have ho1:=QC F O P;have hcr:comR base n F O P W=comR base n F O P W:=rfl
 conv at hcr=>rhs;unfold comR
 generalize comR base n F O P W=R at*;generalize flushR F O P=r at*;have hj2:=h1j.keep hu2 hjm;have gm2:=hu2.j4 g0' (fun h=>h.2 rfl);obtain⟨d0,-,-,-,-,d5⟩:=hj2.c;have H2:=Y6 hd2 hu2 hj2 hl1 ho1 hcr;clear h1j h1 hn1 hjm hbn hO hu1 hg1 hm hmw1 hT hl1 ho1 hcr hj2 hd2 hu2 HF c0 c5 g0 g0';by_cases hcd:r.cd=0
 .have hcd':=qqh hcd;rw[hcd];clear hcd;by_cases hW:W.length=0
  .have hW':=qqh hW;rw[hW]at d5;clear hW;go_wp2
   go_ret
   obtain⟨hd2,hu2,hj2,hl1,ho1,hcr⟩:=H2.o;rw[if_pos (Or.inr (List.length_eq_zero_iff.1 hW'.out))]at hcr;subst hcr;refine⟨by rw[hcd'.out];rfl,hd2.wide (fun k h=>h.1),⟨_,hj2,.inl rfl⟩,?_⟩;obtain⟨h1j,h1,hn1,hjm,hbn,hO,hu1,hg1,hm,hmw1,hT⟩:=H.o;exact(hu1.mono fE).trans (hu2.mono (fun k _ h=> .inl h.1))
  .have hW':=qqh hW;obtain⟨hd2,hu2,hj2,hl1,ho1,hcr⟩:=H2.o;obtain⟨h1j,h1,hn1,hjm,hbn,hO,hu1,hg1,hm,hmw1,hT⟩:=H.o;have HC:=qqh (AG hj2 h1 gm2 hd2 (fun k hk=>hn1 k (qXx hu2.size hk)) hjm (fun h=>h.2 rfl) oM oM);rw[if_neg (fun e=>e.elim (fun h=>h hcd'.out) (fun h=>hW (by simp[h])))]at hcr;have hfl:=Ww base n r.F W r.O r.P;have hol:=Wy base n r.F W r.O r.P;generalize comW base n r.F W r.O r.P=r2 at*;have H2':=Y3 hcr hfl hol;clear hcr hfl hol h1j h1 hn1 hjm hbn hO hu1 hg1 hm hmw1 hT hd2 hu2 hj2 hl1 ho1 hW;have hW:=hW'.out;go_wp2_with fail
   refine HC.o.mono ?_;rintro e w3 ⟨rfl,hd3,hu3⟩;obtain⟨hd2,hu2,hj2,hl1,ho1,-⟩:=H2.o;obtain⟨h1j,h1,hn1,hjm,hbn,hO,hu1,hg1,hm,hmw1,hT⟩:=H.o;have hj3:=hj2.keep hu3 hjm;have gm3:=hu3.j4 gm2 (fun h=>h.2 rfl);obtain⟨e0,-,-,-,-,e5⟩:=hj3.c;have HF3:=qqh (xo hd3 (fun k hk=>hn1 k (qXx (qXx hu2.size hu3.size) hk)));have hU3:Upd (fun k=>T k\/k=j) w w3:=((hu1.mono fE).trans (hu2.mono (fun k _ h=> .inl h.1))).trans (hu3.mono (fun k _ h=> .inl h.1));have H3:=Y4 hd3 hj3 hU3 hjm;clear h1j h1 hn1 hjm hbn hO hu1 hg1 hm hmw1 hT hd2 hu2 hj2 hl1 ho1 hd3 hu3 hj3 hU3 d0 d5 gm2 HC;by_cases hc2:r2.cd=0
   .have hc2':=qqh hc2;rw[hc2];clear hc2;go_wp2_with fail
    refine HF3.o.mono ?_;rintro e w4 ⟨rfl,hd4,hu4⟩;obtain⟨hcr,hfl,hol⟩:=H2'.o;obtain⟨hd3,hj3,hU3,hjm⟩:=H3.o;rw[if_neg (fun e=>e hc2'.out)]at hcr;generalize flushR r2.F r2.O r2.P=r3 at*;have hj4:=hj3.keep hu4 hjm;have gm4:=hu4.j4 gm3 (fun h=>h.2 rfl);have z5:=hj4.fz 5;obtain⟨-,-,-,-,-,k5⟩:=hj4.c;have hU4:Upd (fun k=>T k\/k=j) w w4:=hU3.trans (hu4.mono (fun k _ h=> .inl h.1));have H4:=Y5 hcr hd4 hj4 hU4 hjm;clear hcr hfl hol hd3 hj3 hU3 hjm hd4 hu4 hj4 hU4 e0 e5 gm3 HF3;by_cases hc3:r3.cd=0
    .have hc3':=qqh hc3;rw[hc3];clear hc3;go_wp2
     go_ret
     obtain⟨hcr,hd4,hj4,hU4,hjm⟩:=H4.o;rw[if_neg (fun e=>e hc3'.out)]at hcr;subst hcr;have hu5:=zj w4 j 5 (.slice none 0 0);refine⟨by rw[hc3'.out];rfl,(hd4.keep hu5 (fun k hk e=>hjm k (.inl e) hk)).wide (fun k h=>h.1),⟨.slice none 0 0,⟨(zi hj4.str 5 _).trans oe,Sl.nil _ _ _,by simp[Value.ownBlock],⟨oe,oe,hj4.good.n1,by have:=hj4.good.wl;simp;omega,hj4.good.room,hj4.good.mx,hj4.good.bs⟩⟩,.inr rfl⟩,hU4.trans (hu5.mono (fun k _ e=> .inr e))⟩
    .have q0:(r3.cd==0)=false:=by simpa using hc3
     go_wp2
     go_ret
     obtain⟨hcr,hd4,hj4,hU4,hjm⟩:=H4.o;rw[if_pos hc3]at hcr;subst hcr;exact⟨rfl,hd4.wide (fun k h=>h.1),⟨_,hj4,.inl rfl⟩,hU4⟩
   .have q0:(r2.cd==0)=false:=by simpa using hc2
    go_wp2
    go_ret
    obtain⟨hcr,-⟩:=H2'.o;obtain⟨hd3,hj3,hU3,hjm⟩:=H3.o;rw[if_pos hc2]at hcr;subst hcr;exact⟨rfl,hd3.wide (fun k h=>h.1),⟨_,hj3,.inl rfl⟩,hU3⟩
 .have q0:(r.cd==0)=false:=by simpa using hcd
  go_wp2
  go_ret
  obtain⟨hd2,hu2,hj2,hl1,ho1,hcr⟩:=H2.o;rw[if_pos (Or.inl hcd)]at hcr;subst hcr;refine⟨rfl,hd2.wide (fun k h=>h.1),⟨_,hj2,.inl rfl⟩,?_⟩;obtain⟨h1j,h1,hn1,hjm,hbn,hO,hu1,hg1,hm,hmw1,hT⟩:=H.o;exact(hu1.mono fE).trans (hu2.mono (fun k _ h=> .inl h.1))
theorem Did.step2{own:Nat->Nat}{w w':World}{t s q:Nat}(hf:∀j,w.heap.size<=j->own j=0)(ht:t≠0)(h16:t<16)(hs:s≠0)(hs16:s<16)(hq:own q=s)(hu:Upd (fun j=>(own j=t\/w.heap.size<=j)\/j=q) w w'):Did own (grow own t w.heap.size w'.heap.size) w w' where
 upd:=hu.mono (fun j hj h=>by rcases h with(h|h)|h;exact h▸⟨ht,h16⟩;omega;subst h;rw[hq];exact⟨hs,hs16⟩)
 old:=fun j hj=>zy hj
 new:=fun j hj=>by
  unfold grow;split
  .exact h16
  .rw [hf j hj];decide
 far:=fun j hj=>by
  have:=hu.size;unfold grow;rw[if_neg oM];exact hf j oM
section
variable{R:(Nat->Prop)->World->Prop}{own:Nat->Nat}{w w':World}{t s k q:Nat}
theorem Thing.other2(hR:Thing R)(h:R (fun j=>own j=k) w)(hk:k≠t)(hks:k≠s)(hq:own q=s)(hu:Upd (fun j=>(own j=t\/w.heap.size<=j)\/j=q) w w'):R (fun j=>grow own t w.heap.size w'.heap.size j=k) w':=by
 have h1:R (fun j=>own j=k/\j<w.heap.size) w:=hR.out h (fun j hj hs=>⟨hs,hj⟩);have h2:=hR.keep h1 hu (fun j hs ht=>by rcases ht with(ht|ht)|ht;exact hk (hs.1.symm.trans ht);omega;subst ht;exact hks (hs.1.symm.trans hq));exact hR.out h2 (fun j hj hs=>by rw[zy hs.2];exact hs.1)
end
section
variable{own:Nat->Nat}{w w':World}{c:Nat}{n:CaN}{p:CaP}{a:CaS}
theorem CaAt.jrOwn(h:CaAt own w c n p a):own p.jr=4/\p.jr<w.heap.size:=by
 obtain⟨vw,hj,hS⟩:=h.jr;exact⟨hS _ (.inl rfl),zf hj.str⟩
theorem CaAt.turn24(h:CaAt own w c n p a){F:List Bk}{O:List (Nat×Bk)}{P:List Int}{W:List (Nat×Bk)}(hu:Upd (fun j=>(own j=2\/w.heap.size<=j)\/j=p.jr) w w')(hd:Dv (fun j=>own j=2\/w.heap.size<=j) w' p.ssd F O P)(hl:F.length=a.dF.length)
  (hj:Jn (fun j=>own j=4/\j<w.heap.size) w' p.jr p.ssd (1+2*n.pa) n.jo a.cov a.next W):
  CaAt (grow own 2 w.heap.size w'.heap.size) w' c n p {a with dF:=F,dO:=O,dP:=P,W:=W}:=by
 have hq:=h.jrOwn.1;exact{h with
  str:=(hu.block c h.clt (fun hs=>by rcases hs with(hs|hs)|hs;rw[h.oc]at hs;exact absurd hs de;exact absurd h.clt oM;have:=h.oc;rw[hs,hq]at this;exact absurd this de)).trans h.str
  oc:=(zy h.clt).trans h.oc
  ssd:=(Dv.kU _ _ _ _).mine hu.size hd
  back:=(Dv.kU _ _ _ _).other2 h.back de de hq hu
  jr:=(Jn.kU _ _ _ _ _ _ _).out hj (fun j _ hs=>by rw[zy hs.2];exact hs.1)
  ix:=(Ix.kU _ _ _ _).other2 h.ix de de hq hu
  ss:=(Ss.kU _ _).other2 h.ss de de hq hu
  lg:=(Lg.kU _ _ _).other2 h.lg de de hq hu
  ck:=(Ck.kU _ _ _ _ _ _ _).other2 h.ck de de hq hu
  sm:=(Mp.kU _ _ _).other2 h.sm de de hq hu
  far:=(Did.step2 h.far (t:=2) (s:=4) de de de de hq hu).far
  nib:=h.nib.keep hu (fun hs=>by rcases hs with(hs|hs)|hs;rw[h.on]at hs;exact absurd hs de;exact absurd h.nib.lt oM;exact absurd (h.on.symm.trans ((congrArg own hs).trans hq)) de)
  tur:=h.tur.keep hu (fun hs=>by rcases hs with(hs|hs)|hs;rw[h.ot]at hs;exact absurd hs de;exact absurd h.tur.lt oM;exact absurd (h.ot.symm.trans ((congrArg own hs).trans hq)) de)
  on:=(zy h.nib.lt).trans h.on
  ot:=(zy h.tur.lt).trans h.ot
  fl:=hl.trans h.fl}
abbrev CaS.dev(a:CaS)(r:DRes):CaS:={a with dF:=r.F,dO:=r.O,dP:=r.P}
abbrev CaS.kz(a:CaS)(r:DRes):CaS:={a with bF:=r.F,bO:=r.O,bP:=r.P}
theorem ZQ(h:CaAt own w c n p a)(s:Nat)(hs:s<a.dF.length)(x:Bk)(hx:x.length=64)(hO:a.dO.length<65536):
  Calls prog 18 #[ptr p.ssd,.int .i64 (s:Int),.agg (bkC x).toArray] w (zv own w c n p (a.dev (writeR a.dF a.dO a.dP s x)) (.int .i64 (writeR a.dF a.dO a.dP s x).cd)):=
 (wi h.kT (fun _ h=> .inr h) s hs x hx hO).mono fun _ _ ⟨he,hd,hu⟩=>⟨he,_,h.kP hu hd (by rw[yv]),h.did2 hu⟩
theorem xO(h:CaAt own w c n p a)(s:Nat)(hs:s<a.bF.length)(x:Bk)(hx:x.length=64)(hO:a.bO.length<65536):
  Calls prog 18 #[ptr p.back,.int .i64 (s:Int),.agg (bkC x).toArray] w (zv own w c n p (a.kz (writeR a.bF a.bO a.bP s x)) (.int .i64 (writeR a.bF a.bO a.bP s x).cd)):=
 (wi h.open3 (fun _ h=> .inr h) s hs x hx hO).mono fun _ _ ⟨he,hd,hu⟩=>⟨he,_,h.turn3 hu hd (by rw[yv]),h.did3 hu⟩
def ZR(own:Nat->Nat)(w:World)(c:Nat)(n:CaN)(p:CaP)(a:CaS)(y0:Bk)(cd0:Int)(e:Ending)(w':World):Prop:=
 ∃(y:Bk) (cd:Int),y=y0/\cd=cd0/\y.length=64/\e=.returned (.tuple #[.agg (bkC y).toArray,.int .i64 cd])/\∃own',CaAt own' w' c n p a/\Did own own' w w'
theorem tR(h:CaAt own w c n p a)(s:Nat)(hs:s<a.dF.length):
  Calls prog 67 #[ptr p.ssd,.int .i64 (s:Int)] w (ZR own w c n p {a with dP:=a.dP.tail} (if fate a.dP=1 then zB else curB a.dF a.dO s) (if fate a.dP=1 then 19 else 0)):=
 (vT h.kT (fun _ h=> .inr h) s hs).mono fun _ _ ⟨y,cd,he,hy,hc,hl,hd,hu⟩=>⟨y,cd,hy,hc,hl,he,_,h.kP hu hd rfl,h.did2 hu⟩
theorem ZS(h:CaAt own w c n p a)(s:Nat)(hs:s<a.bF.length):
  Calls prog 67 #[ptr p.back,.int .i64 (s:Int)] w (ZR own w c n p {a with bP:=a.bP.tail} (if fate a.bP=1 then zB else curB a.bF a.bO s) (if fate a.bP=1 then 19 else 0)):=
 (vT h.open3 (fun _ h=> .inr h) s hs).mono fun _ _ ⟨y,cd,he,hy,hc,hl,hd,hu⟩=>⟨y,cd,hy,hc,hl,he,_,h.turn3 hu hd rfl,h.did3 hu⟩
theorem Xl(h:CaAt own w c n p a):Calls prog 232 #[ptr p.jr] w (zv own w c n p a (.int .i64 ((n.jo:Int)-((a.next:Int)-1-(a.cov:Int))))):=
 (Ac h.jr).mono fun _ _ ⟨he,hu⟩=>⟨he,own,h.new hu,h.ki hu⟩
theorem ZT(h:CaAt own w c n p a)(hroom:a.next<=a.cov+n.jo)(hmx:a.next<=1099511627776)(a0 a1 op block slot:Int)(db:Bool)(sum:Int)(hmay:mayR (jaddX a.next n.jo op block slot db sum)=true):
  Calls prog 239 #[ptr p.jr,.agg (recC a0 a1 op block slot db sum).toArray] w (zv own w c n p {a with next:=a.next+1,W:=a.W++[(a.next,sectR (jaddX a.next n.jo op block slot db sum))]} (.tuple #[.int .i64 (a.next:Int),.int .i64 0])):=
 (zdI h.open4 (fun _ h=> .inr h) h.nib (fun hs=>by rcases hs with hs|hs;rw[h.on]at hs;exact absurd hs de;exact absurd h.nib.lt oM) hroom hmx a0 a1 op block slot db sum hmay).mono fun _ _ ⟨he,hj,hu⟩=>⟨he,_,h.turn4 hu hj,h.did4 hu⟩
abbrev CaS.com(n:CaN)(a:CaS):DRes×List (Nat×Bk):=comR (1+2*n.pa) n.jo a.dF a.dO a.dP a.W
theorem Rm(base k:Nat)(F:List Bk)(O:List (Nat×Bk))(P:List Int)(W:List (Nat×Bk)):(comR base k F O P W).1.F.length=F.length:=by
 unfold comR
 repeat' split
 all_goals simp only[rf,Ww]
theorem Tm(h:CaAt own w c n p a)(h1:∀q∈a.W,1<=q.1)(hO:a.dO.length+a.W.length<=65536):
  Calls prog 101 #[ptr p.jr] w (zv own w c n p {a.dev (a.com n).1 with W:=(a.com n).2} (.int .i64 (a.com n).1.cd)):=by
 obtain⟨vw,hj,hS⟩:=h.jr;have hfl:=h.fl;have hz:=h.ok.z;unfold CaN.size at hfl;refine(JY hj h1 h.kT (fun _ h=> .inr h) ?_ oM hO).mono ?_
 .intro k hk hs;have h4:=hS k hk;rcases hs with hs|hs
  .rw [h4]at hs;exact absurd hs de
  .have:=hj.slt k hk;omega
 .rintro e w' ⟨rfl,hd,⟨vw',hj',hv⟩,hu⟩;have hq:=h.jrOwn.1;refine⟨rfl,_,h.turn24 hu hd (Rm _ _ _ _ _ _) ⟨vw',hj',?_⟩,Did.step2 h.far de de de de hq hu⟩;rintro k (rfl|hk)
  .exact ⟨hS _ (.inl rfl),zf hj.str⟩
  .rcases hv with rfl|hv
   .exact ⟨hS _ (.inr hk),hj.slt k (.inr hk)⟩
   .rw [hv]at hk;cases hk
end
theorem JZ{w:World}{b mb N:Nat}{v:Value}{ps:List (Int×Bool)}{slots:Nat}(h:IndexAt w b v mb N ps slots)(k s:Int)(d:Bool)(ho:k<0\/(ps.length:Int)<=k\/s<0\/(slots:Int)<=s):
  Calls prog 203 #[.pointer (some ⟨b,0,none⟩),.int .i64 k,zM s d] w fun e w'=>e=.returned (.tuple #[zM 0 false,.int .i64 10])/\Below w.heap.size w w':=by
 have hu:Upd (fun _=>False) w ((w.alloc (.cells #[.int .i64 s,.bool d] 95)).alloc (.cells #[.int .i64 0,.bool false] 95)):=((uur _ _).alloc _).alloc _;have hbl:=h.blt;have hle:=h.le;have hsl:=h.sl1;have g0:=(hu.cellAt (o:=0) hbl id).trans (za h.str 0);have g2:=(hu.cellAt (o:=2) hbl id).trans (za h.str 2);simp at g0 g2;obtain⟨ao,c,rfl⟩:=h.sl.rd.j7;clear h hu;have ho':k<0\/(¬k<0/\(ps.length:Int)<=k)\/(¬k<0/\¬(ps.length:Int)<=k/\s<0)\/(¬k<0/\¬(ps.length:Int)<=k/\¬s<0/\(slots:Int)<=s):=oM;clear ho;rcases ho' with h1|⟨h1,h2⟩|⟨h1,h2,h3⟩|⟨h1,h2,h3,h4⟩
 case' inr.inl=>
  have d1:decide (k<0)=false:=by simpa using h1
  have d2:decide ((ps.length:Int)<=k)=true:=by simpa using h2
 case' inr.inr.inl=>
  have d1:decide (k<0)=false:=by simpa using h1
  have d2:decide ((ps.length:Int)<=k)=false:=by simpa using h2
  have d3:decide (s<0)=true:=by simpa using h3
 case' inr.inr.inr=>
  have d1:decide (k<0)=false:=by simpa using h1
  have d2:decide ((ps.length:Int)<=k)=false:=by simpa using h2
  have d3:decide (s<0)=false:=by simpa using h3
  have d4:decide ((slots:Int)<=s)=true:=by simpa using h4
 all_goals
  go_enter func203,ntmps203
  go_wp2
  go_quiet(fail)
  clear g0 g2;generalize hw3:(((w.alloc (.cells #[.int .i64 s,.bool d] 95)).alloc (.cells #[.int .i64 0,.bool false] 95)).drewN nq)=w3;have hb3:Below w.heap.size w w3:=by rw[<-hw3];exact zR (((qxl _ _).alloc (qXv _) _).alloc oe _) _
  have hrx:w3.heap[w.heap.size+1]?=some (.cells #[.int .i64 0,.bool false] 95):=by rw[<-hw3];exact zc _ _ oe
  clear hw3;obtain⟨r0,r1,f0,f1⟩:=qU _ _ hrx;have Y:=qqh (qV _ _ hrx);clear hrx;go_wp2
  refine qYw (v:=.tuple #[zM 0 false,.int .i64 10]) ?_ rfl ⟨rfl,tk hb3 _ oM _ _⟩;simp[results,results203,go_sem,Y.out.1,Y.out.2]
theorem qn{ps:List (Int×Bool)}{n:Nat}(h:n<ps.length):ps.getD n (-1,false)=ps[n]:=by simp[List.getD,h]
theorem uH{w:World}{b mb N:Nat}{v:Value}{ps:List (Int×Bool)}{slots:Nat}(h:IndexAt w b v mb N ps slots)(k:Int):
  Calls prog 100 #[.pointer (some ⟨b,0,none⟩),.int .i64 k] w fun e w'=>e=.returned (.tuple #[zM (getV ps k).1 (getV ps k).2,.int .i64 (getC ps k)])/\Below w.heap.size w w':=by
 by_cases ho:k<0\/(ps.length:Int)<=k
 .simp only[getV,getC,if_pos ho];exact JG h k ho
 .obtain ⟨n,rfl⟩:∃n:Nat,k=n:=⟨k.toNat,oM⟩
  have hn:n<ps.length:=oM;simp only[getV,getC,if_neg ho,qxu,qn hn];rcases h.good.each n hn with e|e
  .simp only[e,if_true];exact QU h n hn e
  .have h1:ps[n].1≠-1:=oM;have h2:ps[n]≠(-1,false):=fun e=>h1 (by rw[e]);simp only[if_neg h2];exact Xb h n hn h1
theorem Ea{w:World}{b mb N:Nat}{v:Value}{ps:List (Int×Bool)}{slots:Nat}(h:IndexAt w b v mb N ps slots)(k s:Int)(d:Bool)(hN:N<maxLen):
  Calls prog 203 #[.pointer (some ⟨b,0,none⟩),.int .i64 k,zM s d] w fun e w'=>e=.returned (.tuple #[zM (uD ps slots k s).1 (uD ps slots k s).2,.int .i64 (putC ps slots k s)])/\
   IndexAt w' b v mb (N+1) (putL ps slots k s d) slots/\Upd (ixS v mb) w w':=by
 by_cases ho:k<0\/(ps.length:Int)<=k\/s<0\/(slots:Int)<=s
 .have e:putC ps slots k s=10:=by unfold putC;rw[if_pos ho]
  simp only[uD,putL,e,if_neg (show¬(10:Int)=0 by decide)];exact(JZ h k s d ho).mono fun e w' ⟨he,hb⟩=>⟨he,(h.below hb).mono (qXw _),uuo hb⟩
 .obtain ⟨n,rfl⟩:∃n:Nat,k=n:=⟨k.toNat,oM⟩
  have hn:n<ps.length:=oM;by_cases hm:mayPut ps n s
  .have e:putC ps slots n s=0:=by
    unfold putC;rw[if_neg ho,if_pos (by simpa[mayPut]using hm)]
   simp only[uD,putL,e,if_true,qxu,qn hn];exact AI h n s d hn oM oM hm hN
  .have e:putC ps slots n s=15:=by
    unfold putC;rw[if_neg ho,if_neg (by simpa[mayPut]using hm)]
   simp only[uD,putL,e,if_neg (show¬(15:Int)=0 by decide)];exact(Tg h n s d hn oM oM hm).mono fun e w' ⟨he,hb⟩=>⟨he,(h.below hb).mono (qXw _),uuo hb⟩
theorem Rn{α:Type}{l:List α}{i:Nat}{x:α}(h:l[i]?=some x):l.set i x=l:=by
 obtain⟨hi,rfl⟩:=qyp.1 h;exact List.set_getElem_self hi
def dropL(ps:List (Int×Bool))(k:Int):List (Int×Bool):=if getC ps k=0 then ps.set k.toNat (-1,false)else ps
def cleanL(ps:List (Int×Bool))(k:Int):List (Int×Bool):=if getC ps k=0 then ps.set k.toNat ((getV ps k).1,false)else ps
theorem tn{ps:List (Int×Bool)}{slots:Nat}(h:Good ps slots){k:Int}(hc:getC ps k=0):∃(n:Nat) (hn:n<ps.length),k=n/\0<=ps[n].1/\ps[n].1<slots/\getV ps k=ps[n]:=by
 unfold getC at hc;by_cases ho:k<0\/(ps.length:Int)<=k
 .rw [if_pos ho]at hc;cases hc
 .rw [if_neg ho]at hc;obtain⟨n,rfl⟩:∃n:Nat,k=n:=⟨k.toNat,oM⟩
  have hn:n<ps.length:=oM;simp only[qxu,qn hn]at hc;by_cases e:ps[n]=(-1,false)
  .simp [e]at hc
  .refine ⟨n,hn,rfl,?_,?_,?_⟩
   .rcases h.each n hn with e'|e';exact absurd e' e;exact e'.1
   .rcases h.each n hn with e'|e';exact absurd e' e;exact e'.2
   .simp only[getV,if_neg ho,qxu,qn hn,if_neg e]
theorem rh{ps:List (Int×Bool)}{k:Int}(hc:getC ps k≠0):getV ps k=(0,false):=by
 unfold getC at hc;unfold getV;split
 .rfl
 .rename_i h
  rw[if_neg h]at hc;split
  .rfl
  .rename_i h2
   rw[if_neg h2]at hc;exact absurd rfl hc
theorem Tn{w:World}{b mb N:Nat}{v:Value}{ps:List (Int×Bool)}{slots:Nat}(h:IndexAt w b v mb N ps slots)(k:Int):
  Calls prog 241 #[.pointer (some ⟨b,0,none⟩),.int .i64 k] w fun e w'=>e=.returned (.int .i64 (getC ps k))/\
   IndexAt w' b v mb N (cleanL ps k) slots/\Upd (ixS v mb) w w':=by
 have H:=qqh h;by_cases hc:getC ps k=0
 .obtain ⟨n,hn,rfl,h0,h1,hv⟩:=tn h.good hc;have hL:Hid (cleanL ps n=ps.set n (ps[n].1,false)):=by show _=_;simp[cleanL,hc,hv]
  have hV:=qqh hv;have hle:=h.le;clear hv h;have hC:=hc;rw[hc];clear hc;go_enter func241,ntmps241
  go_wp2_with fail
  refine(uH H.o n).mono ?_;rintro e w1 ⟨rfl,hb1⟩;have hz1:=hb1.size;have hu1:Upd (fun _=>False) w (w1.alloc (.cells #[.int .i64 ps[n].1,.bool ps[n].2] 95)):=(uuo hb1).alloc _;have hI:=H.o.keep hu1 id (fun _ _ h=>h);have t0:=za hI.str 0;simp at t0;obtain⟨g,off,cap,cur,rfl,hg,_,hcc⟩:=hI.sl.at oM;have e1:=(za hg (off+n*2+1)).trans (hcc (n*2+1) _ (xL hn).2);have f1:=zg hg (off+n*2+1);have hc0:(getC ps n==0)=true:=by simpa using hC
  have HI:=qqh hI;have HU:=qqh hu1;rw[hC,hV.out];clear hg hcc hI hu1 hc0;go_wp2
  go_ret
  have hS:=HI.o.sl.setAt (n*2+1) oM (.bool false);rw[<-qXr off]at hS;have hus:Upd (fun j=>j=g) (w1.alloc (.cells #[.int .i64 ps[n].1,.bool ps[n].2] 95)) ((w1.alloc (.cells #[.int .i64 ps[n].1,.bool ps[n].2] 95)).setCell ⟨g,off+n*2+1,none⟩ (.bool false)):=zj _ _ _ _;have hgb:g≠b:=fun e=>HI.o.ne jt;have hgm:g≠mb:=fun e=>HI.o.nv jt;rw[hL.out];refine⟨rfl,{str:=(hus.block _ HI.o.blt (fun e=>hgb e.symm)).trans HI.o.str,sl:=?_,map:=?_,good:=HI.o.good.clean hn h0,ne:=HI.o.ne,nm:=HI.o.nm,nv:=HI.o.nv,le:=by simpa using hle,sl1:=HI.o.sl1},?_⟩
  .rw [<-ZF,qzj];have e2:(plC ps).set (n*2) (.int .i64 ps[n].1)=plC ps:=Rn (xL hn).1;rw[e2];simpa using hS
  .rw [HI.o.good.atOf_clean hn h0];exact HI.o.map.keep hus (fun e=>hgm e.symm)
  .exact (HU.o.mono fE).trans (hus.mono (fun j _ e=> .inl jt))
 .have hL:cleanL ps k=ps:=by simp[cleanL,hc]
  rw[hL];obtain⟨c,hcc⟩:=qqe (getC ps k);obtain⟨z,hz⟩:=qqe (getV ps k);rw[<-hcc]at hc;rw[<-hcc];have hc':(c==0)=false:=by simpa using hc
  clear hL h;have HG:=qqh (uH H.o k);rw[<-hcc,<-hz]at HG;clear hcc hz;go_enter func241,ntmps241
  go_wp2_with fail
  refine HG.o.mono ?_;rintro e w1 ⟨rfl,hb1⟩;go_wp2
  go_ret
  exact⟨rfl,(H.o.below hb1).keep ((uur (fun _=>False) _).alloc _) id (fun _ _ h=>h),(uuo hb1).alloc _⟩
theorem Ro{w:World}{b mb N:Nat}{v:Value}{ps:List (Int×Bool)}{slots:Nat}(h:IndexAt w b v mb N ps slots)(k:Int)(hc:getC ps k≠0):
  Calls prog 240 #[.pointer (some ⟨b,0,none⟩),.int .i64 k] w fun e w'=>e=.returned (.tuple #[zM 0 false,.int .i64 (getC ps k)])/\Below w.heap.size w w':=by
 have H:=qqh (h.keep ((uur (fun _=>False) w).alloc (.cells #[.int .i64 0,.bool false] 95)) id (fun _ _ h=>h));obtain⟨c,hcc⟩:=qqe (getC ps k);obtain⟨z,hz⟩:=qqe (getV ps k);have HG:=uH H.o k;rw[<-hcc,<-hz]at HG;have HG':=qqh HG;rw[<-hcc]at hc;rw[<-hcc];have hc':(c==0)=false:=by simpa using hc
 clear hcc hz h H hc HG;go_enter func240,ntmps240
 go_wp2_with fail
 refine HG'.o.mono ?_;rintro e w1 ⟨rfl,hb1⟩;have hz1:=hb1.size;simp at hz1;have hB:=zk ((qxl _ w).alloc (qXv _) _) (uuo (S:=fun _=>False) hb1) (qXv _) (fun _ h=>h.elim);have hrx:(w1.alloc (.cells #[.int .i64 z.1,.bool z.2] 95)).heap[w.heap.size]?=some (.cells #[.int .i64 0,.bool false] 95):=
  (((uuo (S:=fun _=>False) hb1).alloc _).block _ oe id).trans (zc w _ rfl)
 obtain⟨r0,r1,f0,f1⟩:=qU _ _ hrx;have Y:=qqh (qV _ _ hrx);clear hrx HG';go_wp2
 refine qYw (v:=.tuple #[zM 0 false,.int .i64 c]) ?_ rfl ⟨rfl,tk (hB.alloc oM _) _ oM _ _⟩;simp[results,results240,go_sem,Y.out.1,Y.out.2]
theorem Eb{w:World}{b mb N:Nat}{v:Value}{ps:List (Int×Bool)}{slots:Nat}(h:IndexAt w b v mb N ps slots)(n:Nat)(hn:n<ps.length)(h0:0<=ps[n].1):
  Calls prog 240 #[.pointer (some ⟨b,0,none⟩),.int .i64 n] w fun e w'=>e=.returned (.tuple #[zM ps[n].1 ps[n].2,.int .i64 0])/\
   IndexAt w' b v mb N (ps.set n (-1,false)) slots/\Upd (ixS v mb) w w':=by
 have hgood:=h.good;have hr:=hgood.each n hn;have hsl:=h.sl1;have hle:=h.le;have hw:Upd (fun _=>False) w (w.alloc (.cells #[.int .i64 0,.bool false] 95)):=(uur (fun _=>False) w).alloc (.cells #[.int .i64 0,.bool false] 95);have H:=qqh h;have HG:=qqh (Xb (h.keep hw id (fun _ _ h=>h)) n hn oM);clear h;go_enter func240,ntmps240
 go_wp2_with fail
 refine HG.o.mono ?_;rintro e w1 ⟨rfl,hb1⟩;have hz1:=hb1.size;simp at hz1;clear HG;have hu1:Upd (fun _=>False) w (w1.alloc (.cells #[.int .i64 ps[n].1,.bool ps[n].2] 95)):=(hw.trans (uuo hb1|>.mono (S':=fun _=>False) (fun _ _ h=>h))).alloc _;have hgx:(w1.alloc (.cells #[.int .i64 ps[n].1,.bool ps[n].2] 95)).heap[w1.heap.size]?=some (.cells #[.int .i64 ps[n].1,.bool ps[n].2] 95):=zc w1 _ rfl;have hrx:(w1.alloc (.cells #[.int .i64 ps[n].1,.bool ps[n].2] 95)).heap[w.heap.size]?=some (.cells #[.int .i64 0,.bool false] 95):=
  (((uuo (S:=fun _=>False) hb1).alloc _).block _ oe id).trans (zc w _ rfl)
 go_wp2
 generalize hw2:(w1.alloc (.cells #[.int .i64 ps[n].1,.bool ps[n].2] 95))=w2;rw[hw2]at hu1 hgx hrx;have hz2:w2.heap.size=w1.heap.size+1:=by rw[<-hw2];simp
 clear hw2 hb1 hw;have hI2:=H.o.keep hu1 id (fun _ _ h=>h);obtain⟨w3,hdel,hM3,hu23',hz3⟩:=(show MapAt w2.drew mb N (atOf ps)from hI2.map).drop (x:=ps[n].1) oM je 0;have hu23:=hu23'.undrew;obtain⟨g,off,cap,rfl,hg,P0,P1⟩:=hI2.at hn;have hbm:b≠mb:=fun e=>hI2.nm e.symm;have hgm:g≠mb:=fun e=>hI2.nv jt;have hgb:g≠b:=fun e=>hI2.ne jt;have hmlt:=H.o.map.lt;have hblt:=H.o.blt;have hglt:=H.o.sl.lt (g:=g) rfl;have T2:=za hI2.str 1;have u0:=za hgx 0;simp at T2 u0;have G3:=(hu23.block _ oM oM).trans hgx;have R3:=(hu23.block _ oM oM).trans hrx;have T3:=(hu23.block _ hI2.blt hbm).trans hI2.str;have S3:=hI2.sl.keep hu23 (fun g' hg' e=>by simp[Value.ownBlock]at hg';omega);have HM3:=qqh hM3;have HZ3:w3.heap.size=w1.heap.size+1:=hz3.trans hz2;have HU3:=qqh ((hu1.mono (S':=fun j=>j=mb) (fun _ _ h=>h.elim)).trans hu23);clear hu1 hgx hrx hz2 hI2 P0 P1 hu23' hu23 hM3 hg hz3;go_wp2
 go_region
 clear hdel T2 u0;have t0:=za T3 0;simp at t0;obtain⟨g',off',cap',cur,hve,hg3,hcs,hcc⟩:=S3.at oM;cases hve;have HG3:=qqh G3;have HR3:=qqh R3;have HT3:=qqh T3;have HS3:=qqh S3;have E0:=(za hg3 (off+n*2)).trans (hcc _ _ (xL hn).1);have E1:=(za hg3 (off+n*2+1)).trans (hcc (n*2+1) _ (xL hn).2);have F0:=zg hg3 (off+n*2);have F1:=zg hg3 (off+n*2+1);have hg3':=zf hg3;have hb3':=zf T3;clear G3 R3 T3 S3 hcs hcc hg3;go_wp2
 go_region_held3 (fun W=>W.cell? ⟨b,0,none⟩=some (.slice (some ⟨g,off,none⟩) ps.length cap)) (go_keep)
  ((go_at_call 173;refine(yW _).mono ?_;rintro e w4 ⟨rfl,hu4,hz4⟩;have k0:=(hu4.cellAt (o:=0) oh id).trans t0;have k1:=(hu4.cellAt oh id).trans E0;have k2:=(hu4.cellAt oh id).trans E1;have k3:=(hu4.frozenAt oh id).trans F0;have k4:=(hu4.frozenAt oh id).trans F1))
 generalize hw5:((w4.setCell ⟨g,off+n*2,none⟩ (.int .i64 (-1))).setCell ⟨g,off+n*2+1,none⟩ (.bool false))=w5;have hu34:Upd (fun _=>False) w3 w4:=hu4.undrew;have hu45:Upd (fun j=>j=g) w4 w5:=by rw[<-hw5];exact(zj w4 g (off+n*2) _).trans (zj _ g (off+n*2+1) _)
 have S4:=HS3.o.keep hu34 (fun _ _ h=>h);have S5:Sl w5 95 2 (.slice (some ⟨g,off,none⟩) ps.length cap) (ps.set n (-1,false)).length (plC (ps.set n (-1,false))):=by
  rw[<-hw5];exact S4.putPlace n hn (-1) false
 have hz5:w5.heap.size=w1.heap.size+2:=by rw[<-hw5];simp[hz4];simp[HZ3]
 clear hw5 k0 k1 k2 k3 k4 E0 E1 F0 F1 t0;have hu35:=(hu34.mono (S':=fun j=>j=g) (fun _ _ h=>h.elim)).trans hu45;have M5:=HM3.o.keep hu35 (fun e=>hgm e.symm);have T5:=(hu35.block _ oM (fun e=>hgb e.symm)).trans HT3.o;have G5:=(hu35.block _ oM oM).trans HG3.o;have R5:=(hu35.block _ oM oM).trans HR3.o;have HI5:Hid (IndexAt w5 b (.slice (some ⟨g,off,none⟩) ps.length cap) mb N (ps.set n (-1,false)) slots):=
  {str:=T5,sl:=by simpa using S5,map:=by rw[hgood.atOf_drop hn];exact M5,good:=hgood.drop n,ne:=H.o.ne,nm:=H.o.nm,nv:=H.o.nv,le:=by simpa using hle,sl1:=hsl}
 have HU5:Hid (Upd (ixS (.slice (some ⟨g,off,none⟩) ps.length cap) mb) w w5):=
  (HU3.o.mono (fun j _ e=> .inr e)).trans (hu35.mono (fun j _ e=> .inl jt))
 have HR5:=qqh R5;have r0:=za R5 0;have r1:=za R5 1;have q0:=zg R5 0;have q1:=zg R5 1;have x0:=za G5 0;have x1:=za G5 1;simp at r0 r1 x0 x1;clear hu34 hu45 S4 S5 hu35 M5 T5 G5 R5 hz4 hu4;go_wp2
 have HA3:=zi (zi HR5.o 0 (.int .i64 ps[n].1)) 1 (.bool ps[n].2);have y0:=za HA3 0;have y1:=za HA3 1;simp at y0 y1;have hue:Upd (fun j=>j=w.heap.size) w5 ((w5.setCell ⟨w.heap.size,0,none⟩ (.int .i64 ps[n].1)).setCell ⟨w.heap.size,1,none⟩ (.bool ps[n].2)):=(zj w5 w.heap.size 0 _).trans (zj _ _ 1 _);refine qYw (v:=.tuple #[zM ps[n].1 ps[n].2,.int .i64 0]) ?_ rfl ⟨rfl,?_,?_⟩
 .simp [results,results240,go_sem,y0,y1]
 .exact HI5.o.keep hue oM (fun j hj e=>by have:=H.o.slt j hj;omega)
 .exact HU5.o.new (hue.mono (fun _ _ h=>h)) (fun j hj e=>oM)
theorem Rp{w:World}{b mb N:Nat}{v:Value}{ps:List (Int×Bool)}{slots:Nat}(h:IndexAt w b v mb N ps slots)(k:Int):
  Calls prog 240 #[.pointer (some ⟨b,0,none⟩),.int .i64 k] w fun e w'=>e=.returned (.tuple #[zM (getV ps k).1 (getV ps k).2,.int .i64 (getC ps k)])/\
   IndexAt w' b v mb N (dropL ps k) slots/\Upd (ixS v mb) w w':=by
 by_cases hc:getC ps k=0
 .obtain ⟨n,hn,rfl,h0,h1,hv⟩:=tn h.good hc;have hL:dropL ps n=ps.set n (-1,false):=by simp[dropL,hc]
  rw[hL,hv,hc];exact Eb h n hn h0
 .have hL:dropL ps k=ps:=by simp[dropL,hc]
  rw[hL,rh hc];exact(Ro h k hc).mono fun e w' ⟨he,hb⟩=>⟨he,h.below hb,uuo hb⟩
end Go.Proofs.YtfhfbpmlnjdfoaaGreatDoor
