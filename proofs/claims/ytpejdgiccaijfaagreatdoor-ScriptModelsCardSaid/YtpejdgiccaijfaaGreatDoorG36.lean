/- script.New. -/
import Derived.Test.YtpejdgiccaijfaaGreatDoorG34
import Derived.Test.YtpejdgiccaijfaaGreatDoorG35
set_option maxRecDepth 100000
set_option maxHeartbeats 4000000
namespace Go.Proofs.YtpejdgiccaijfaaGreatDoor
open Go Go.RowKit Tryz
theorem Yh(n:CaN)(L:Array Value)(hL:L=(n.C++polC).toArray)(w:World):
  (Instr.build 48 #[(0,.agg n.C.toArray),(1,.agg polC.toArray)]).run prog w=.ok (.agg L) w:=by rw[hL];kernel_rfl
def zey(w:World)(n:CaN)(a:CaS)(e:Ending)(w':World):Prop:=
 ∃own r v q p,e=.returned (.tuple #[ptr r,.int .i64 0])/\RunAt own w' r v q n p a 0 false/\Below w.heap.size w w'/\(∀j,j<w.heap.size->own j=0)/\w.heap.size<=r
theorem Ab(n:CaN)(hok:n.Ok)(hm:mayS n.I=true){own:Nat->Nat}{w:World}{ssd back:Nat}(hD:Dvs own w ssd back (fmtF n (List.replicate n.size zB) []) [] (List.replicate n.bl zB) [] []):
  Calls prog 55 #[ptr ssd,ptr back] w (uK own w ssd back n (SK n)):=
 tP hD (EW (O:=[]) hok hm jl) jl
theorem zbj(n:CaN)(hok:n.Ok)(hm:mayS n.I=true)(hsl:2<=n.sl)(w:World)(nib:Nib w)(tur:Tur w):Calls prog 15 #[.agg (n.C++polC).toArray] w (zey w n (SK n)):=by
 obtain⟨U,hU⟩:=qqe (n.C);obtain⟨V,hV⟩:=qqe (layC n.sl n.jo n.pa n.lo);obtain⟨m,hmm⟩:=qqe (w.heap.size);obtain⟨w1,hw1⟩:=qqe (w.alloc (.cells (U++polC).toArray 48));have hg1:w1.heap[m]?=some (.cells (U++polC).toArray 48 (0,0)):=by rw[hw1,hmm];exact zc w _ rfl
 have hu1:=qqu hw1;have hUl:U.length=7:=by rw[hU];rfl
 have hr:=zg hg1;have rU:w1.rangeAt m 0 U:=fun j u hj=>hr j u (by rw[qyg (qyl.1 hj).1];exact hj);have rP:w1.rangeAt m 7 polC:=fun j u hj=>by
  have h2:=hr (7+j) u (by rw[qyh oM,hUl,show 7+j-7=j by omega];exact hj)
  rwa[qXx]at h2
 have hsU:(prog.info? 44).map (·.size)=some U.length:=by rw[hU];exact xj
 have HPl:Hid (Calls prog 26 #[.agg U.toArray] w1 fun e w'=>e=.returned (.tuple #[.agg V.toArray,.int .i64 0])/\Below w1.heap.size w1 w'):=by
  show Calls _ _ _ _ _;rw[hU,hV];obtain⟨b1,b2,s1,s2,j1,j2,l1,l2,a1,a2,p1,p2,z⟩:=hok;exact un n.id n.bl n.sl n.jo n.pa n.lo n.ba b1 b2 s1 s2 j1 j2 l1 l2 a1 a2 p1 p2 z w1
 rw[<-hU];have H:=Y10 nib tur hok hm hsl hU hV hg1 hu1 hmm;have HW:=Y2 hw1 hmm;have hut:=underlying44;clear nib tur hok hm hsl hU hV hg1 hu1 hmm hw1 hr;go_enter func15,ntmps15
 go_upto_region 1 with fail
 rw[<-HW.o.1,<-HW.o.2];go_wp2_with (first
  |(refine qYy rfl _ _ rfl _ _ rfl _ _ rU hut rfl hsU ?_)
  |fail)
 refine HPl.out.mono ?_;rintro e w2 ⟨rfl,hb2⟩;obtain⟨nib,tur,hok,hm,hsl,hU,hV,hg1,hu1,hmm⟩:=H.o;obtain⟨lb,hlb⟩:=qqe (w2.heap.size);obtain⟨w3,hw3⟩:=qqe (w2.alloc (.cells V.toArray 73));obtain⟨w4,hw4⟩:=qqe (w3.alloc (.cells #[.int .i64 1,.int .i64 0,.int .i64 2,.pointer none,.pointer none,.pointer none] 68));have hu2:=qqb hb2;have hu3:=qqu hw3;have hu4:=qqu hw4;obtain⟨r,hrr⟩:=qqe (w3.heap.size);have g4:w4.heap[r]?=some (.cells #[.int .i64 1,.int .i64 0,.int .i64 2,.pointer none,.pointer none,.pointer none] 68 (0,0)):=by rw[hw4,hrr];exact zc w3 _ rfl
 have hz4:w4.heap.size=r+1:=by rw[hw4,hrr];simp
 have hg3:w3.heap[lb]?=some (.cells V.toArray 73 (0,0)):=by rw[hw3,hlb];exact zc w2 _ rfl
 have hVl:V.length=7:=by rw[hV];rfl
 have hV1:∀v∈V,v.oneCell'=true:=by rw[hV];exact ut _ _ _ _
 have hsV:Hid ((prog.info? 73).map (·.size)=some V.length):=by show _=_;rw[hVl];exact xF
 have v6:w4.cell? ⟨lb,6,none⟩=some (.int .i64 (n.size:Int)):=by rw[za (hu4.jT hg3),hV];simp[layC,CaN.size]
 have rU4:=((hu2.trans hu3).trans hu4).range rU id;have rP3:=(hu2.trans hu3).range rP id;have u1:w4.cell? ⟨m,1,none⟩=some (.int .i64 (n.bl:Int)):=by rw[za (((hu2.trans hu3).trans hu4).jT hg1),hU];rfl
 have hz1:1<=n.size:=by unfold CaN.size;omega
 have hD1:=qqh (Vc n.size hz1 hok.z w4);have H4:=Y4 (((hu1.trans hu2).trans hu3).trans hu4) g4 hz4 (show w.heap.size<=r from by rw[hrr];exact((hu1.trans hu2).trans hu3).size);have HV:=Y2 hVl hV1;have HLe:Hid (w1.heap.size<=r):=qqh (by rw[hrr];exact(hu2.trans hu3).size);have HW4:=Y4 hw3 hw4 hlb hrr;clear nib tur hok hm hsl hU hV hg1 hu1 hmm hb2 hw3 hw4 hu2 hu3 hu4 g4 hz4 hg3 hVl hV1 hz1 rU rP HPl hlb hrr;go_upto_region 5 with(first
  |(refine zk rfl _ _ _ rfl _ _ V rfl rfl (by rw[HV.o.1];rfl) hsV.out HV.o.2 ?_;rw[<-HW4.o.1])
  |(refine qYy rfl _ _ rfl _ _ rfl _ _ rP3 underlying46 rfl qh ?_)
  |fail)
 rw[<-HW4.o.2.1,<-HW4.o.2.2.1,<-HW4.o.2.2.2];go_wp2_with fail
 refine hD1.out.mono ?_;rintro e w5 ⟨b1,rfl,hX1,hlo1,hb5⟩;obtain⟨hu4,g4,hz4,hwr⟩:=H4.o;have hu5:=qqb hb5;have g5:=hu5.jT g4;have k3:=za g5 3;have f3:=zf g5 3;simp at k3;obtain⟨x5,hx5⟩:=qqe (w5.setCell ⟨r,3,none⟩ (ptr b1));have hus5:Upd (fun j=>j=r) w5 x5:=by rw[hx5];exact zi w5 r 3 _
 have gx5:x5.heap[r]?=some (.cells #[.int .i64 1,.int .i64 0,.int .i64 2,ptr b1,.pointer none,.pointer none] 68 (0,0)):=by rw[hx5];exact zh g5 3 (ptr b1)
 have hmr:m<r:=by
  obtain⟨-,-,-,-,-,-,-,hg1,-,-⟩:=H.o;have h1:=zd hg1;have h2:=HLe.out;omega
 have u5:=hus5.jS (hu5.jS u1 id) (fun e=>by replace e:m=r:=e;omega);have rU5:=hus5.range (hu5.range rU4 id) (fun e=>by replace e:m=r:=e;omega);have hD2:=qqh (Vc n.bl H.o.2.2.1.b1 H.o.2.2.1.b2 x5);have H5:=Y5 hX1 hu5 hus5 gx5 hmr;have HW5:=qqh hx5;clear hX1 hlo1 hb5 hu4 g4 hz4 hwr hu5 g5 hus5 gx5 hmr hx5 u1 rU4 v6 hD1 rP3;go_upto_region 8 with fail
 rw[<-HW5.o];clear k3 f3;go_wp2_with fail
 refine hD2.out.mono ?_;rintro e w6 ⟨b2,rfl,hX2,hlo2,hb6⟩;obtain⟨hX1,hu5,hus5,gx5,hmr⟩:=H5.o;have hu6:=qqb hb6;have g6:=hu6.jT gx5;have k4:=za g6 4;have f4:=zf g6 4;simp at k4;obtain⟨x6,hx6⟩:=qqe (w6.setCell ⟨r,4,none⟩ (ptr b2));have hus6:Upd (fun j=>j=r) w6 x6:=by rw[hx6];exact zi w6 r 4 _
 have gx6:x6.heap[r]?=some (.cells #[.int .i64 1,.int .i64 0,.int .i64 2,ptr b1,ptr b2,.pointer none] 68 (0,0)):=by rw[hx6];exact zh g6 4 (ptr b2)
 have rU6:=hus6.range (hu6.range rU5 id) (fun e=>by replace e:m=r:=e;omega);obtain⟨nib,tur,hok,hm,hsl,hU,hV,hg1,hu1,hmm⟩:=H.o;obtain⟨hu4,g4,hz4,hwr⟩:=H4.o;obtain⟨own,hown⟩:∃own:Nat->Nat,own=fun j=>if w4.heap.size<=j/\j<w5.heap.size then 2 else if w5.heap.size<=j/\j<w6.heap.size then 3 else 0:=⟨_,rfl⟩
 have hz5:x5.heap.size=w5.heap.size:=by rw[HW5.o];simp
 have hz6:x6.heap.size=w6.heap.size:=by rw[hx6];simp
 have hs5:=hu5.size;have hs6:=hu6.size;have hall:Upd (fun j=>j=r) w4 x6:=((hu5.mono fE).trans hus5).trans ((hu6.mono fE).trans hus6);have hbase:=hu4.size;have hnl:=nib.lt;have htl:=tur.lt;have o0:∀j,j<w4.heap.size->own j=0:=fun j hj=>by rw[hown];show(if _ then _ else if _ then _ else _)=_;rw[if_neg oM,if_neg oM]
 have D:Dvs own x6 b1 b2 (List.replicate n.size zB) [] (List.replicate n.bl zB) [] []:=by
  refine⟨?_,?_,fun j hj=>?_,(nib.keep hu4 id).keep hall (fun e=>by replace e:0=r:=e;omega),(tur.keep hu4 id).keep hall (fun e=>by replace e:1=r:=e;omega),o0 _ oM,o0 _ oM⟩
  .have a1:Dv (fun j=>w4.heap.size<=j/\j<w5.heap.size) w5 b1 (List.replicate n.size zB) [] []:=hX1.out (fun j h1 h2=>⟨h2,h1⟩);have a2:=((a1.keep hus5 (fun j h e=>oM)).new hu6).keep hus6 (fun j h e=>oM);exact a2.out (fun j _ hj=>by rw[hown];exact if_pos hj)
  .have a2:=hX2.keep hus6 (fun j (h:x5.heap.size<=j) e=>oM);exact a2.out (fun j h1 (h2:x5.heap.size<=j)=>by rw[hown];show(if _ then _ else if _ then _ else _)=_;rw[if_neg oM,if_pos ⟨oM,oM⟩])
  .rw [hown];show(if _ then _ else if _ then _ else _)=_;rw[if_neg oM,if_neg oM]
 have c3:=za gx6 3;have c4:=za gx6 4;simp at c3 c4;have hud:=(uur (fun _=>False) x6).drew;have hF:=Ev (D.new hud).kA (fun j hj=> .inr hj) (D.new hud).back (D.new hud).nib (D.new hud).on2 n hok hm jl jl (qXy _);rw[<-hU]at hF;have HF:=qqh hF;have HD:=Y8 (D.new hud) (D.jY hud) (show Bo own x6 r _ _ from⟨gx6,o0 r oM⟩) (o0:∀j,j<w4.heap.size->own j=0) (hu4.new hall (fun i hi e=>oM):Upd (fun _=>False) w x6) hbase (show own m=0 from o0 m (by have h1:=zd hg1;have h2:=HLe.out;omega)) (show w.heap.size<=r/\0<w.heap.size/\1<w.heap.size from⟨hwr,hnl,htl⟩);have HW6:=qqh hx6;clear hX1 hX2 hlo2 hb6 hu5 hus5 gx5 hmr hu6 g6 hx6 hus6 gx6 rU5 u5 nib tur hok hm hsl hU hV hg1 hu1 hmm hu4 g4 hz4 hwr hown hz5 hz6 hs5 hs6 hall hbase hnl htl o0 D hF hD2;go_upto_region 11 with fail
 rw[<-HW6.o];clear k4 f4;refine qZb (S:=fun W=>W.rangeAt m 0 U/\W.cell? ⟨r,3,none⟩=some (ptr b1)/\W.cell? ⟨r,4,none⟩=some (ptr b2)) kR (⟨by rw[qYj];exact rU6,by rw[qYh];exact c3,by rw[qYh];exact c4⟩) (fun hHeld=>?_);refine Wl.i [0] (Wl.t hHeld (Wl.o ?_));refine Wl.l 1 (fun w h=>h.1) hut hsU hHeld ?_;refine Wl.i [2,3,4,5,6,7,8,9] ?_;iterate 8 refine Wl.t hHeld ?_
 refine Wl.o ?_;refine Wl.r 10 (fun K hK=>?_);go_simp
 refine HF.o.mono ?_;rintro e w7 ⟨rfl,hd7,hu7⟩;have d7:=HD.o.1.kx hu7 hd7;have e7:=HD.o.2.1.trans (HD.o.1.did2 hu7);obtain⟨own7,hown7⟩:=qqe (grow own 2 x6.drew.heap.size w7.heap.size);rw[<-hown7]at d7 e7;have b7:=HD.o.2.2.1.did e7;have rU7:=e7.upd.range rU6 (fun e=>e.1 HD.o.2.2.2.2.2.2.1);have c37:w7.cell? ⟨r,3,none⟩=some (ptr b1):=b7.cell 3;have c47:w7.cell? ⟨r,4,none⟩=some (ptr b2):=b7.cell 4;have D7:=Y3 d7 e7 b7;clear hd7 hu7 hown7 d7 e7 b7;refine hK.o _ _ (⟨rU7,c37,c47⟩) (fun hH1=>?_);clear hK K;refine Wl.r 11 (fun K hK=>?_);go_simp
 refine hK.o _ _ (hH1) (fun hH2=>?_);clear hK K;refine Wl.d ?_;go_upto_region 14 with fail
 have hdr:=(uur (fun _=>False) w7).drew;obtain⟨nib,tur,hok,hm,hsl,-⟩:=H.o;have HV:=qqh (SI hok hsl (fun w1' hu=>Ab n hok hm (D7.out.1.new (hdr.trans hu))) (D7.out.1.new hdr).far);have dr7:=D7.out.1.jY hdr;have rp7:w7.rangeAt r 0 polC:=fun j u hj=>(zg D7.out.2.2.1) j u (by
  have h3:=(qyl.1 hj).1;replace h3:j<3:=h3;rcases(show j=0\/j=1\/j=2 by omega)with rfl|rfl|rfl<;>exact hj)
 clear nib tur hok hm hsl hdr c3 c4 rU6;refine qZb (S:=fun W=>W.cell? ⟨r,3,none⟩=some (ptr b1)/\W.cell? ⟨r,4,none⟩=some (ptr b2)/\W.rangeAt r 0 polC) kR (⟨by rw[qYh];exact c37,by rw[qYh];exact c47,by rw[qYj];exact rp7⟩) (fun hHeld=>?_);refine Wl.i [0,1,2,3,4,5,6,7,8,9,10,11] ?_;iterate 12 refine Wl.t hHeld ?_
 refine Wl.o ?_;refine Wl.l 12 (fun w h=>h.2.2) underlying46 qh hHeld ?_;refine Wl.r 13 (fun K hK=>?_);go_simp
 refine HV.o.mono ?_;rintro e w8 ⟨v,q,p,own8,rfl,hv8,hp1,hp2,d8⟩;have e8:=dr7.trans d8;have b8:=D7.out.2.2.did e8;have c38:w8.cell? ⟨r,3,none⟩=some (ptr b1):=b8.cell 3;have c48:w8.cell? ⟨r,4,none⟩=some (ptr b2):=b8.cell 4;have k58:w8.cell? ⟨r,5,none⟩=some (.pointer none):=b8.cell 5;have f58:=zf b8.1 5;have rp8:w8.rangeAt r 0 polC:=e8.upd.range rp7 (fun e=>e.1 D7.out.2.2.2);have gx8:=zh b8.1 5 (ptr v);have s3:(w8.setCell ⟨r,5,none⟩ (ptr v)).cell? ⟨r,3,none⟩=some (ptr b1):=za gx8 3;have s4:(w8.setCell ⟨r,5,none⟩ (ptr v)).cell? ⟨r,4,none⟩=some (ptr b2):=za gx8 4;have sp:(w8.setCell ⟨r,5,none⟩ (ptr v)).rangeAt r 0 polC:=fun j u hj=>(zg gx8) j u (by have h3:=(qyl.1 hj).1;replace h3:j<3:=h3;rcases(show j=0\/j=1\/j=2 by omega)with rfl|rfl|rfl<;>exact hj);have H8:=Y5 hv8 hp1 hp2 e8 b8;clear hv8 hp1 hp2 d8 e8 b8 gx8;refine hK.o _ _ (⟨c38,c48,rp8⟩) (fun hH1=>?_);clear hK K;refine Wl.i [14,15,16,17,18] ?_;iterate 5 refine Wl.t hH1 ?_
 refine Wl.o ?_;refine Wl.r 19 (fun K hK=>?_);go_simp
 refine hK.o _ _ (⟨s3,s4,sp⟩) (fun hH2=>?_);clear hK K;refine Wl.r 20 (fun K hK=>?_);go_simp
 refine hK.o _ _ (hH2) (fun hH3=>?_);clear hK K;refine Wl.d ?_;obtain⟨hv8,hp1,hp2,e8,b8⟩:=H8.o;obtain⟨d7,e7,b7⟩:=D7.out;obtain⟨-,-,bo,hlow,hw6,hbase,hom,hwr,hnl,htl⟩:=HD.o;have hu9:=zi w8 r 5 (ptr v);have et:=e7.trans e8;have hl:∀j,j<w.heap.size->own j=0:=fun j hj=>hlow j oM;have HF2:=qqh (show RunAt own8 (w8.setCell ⟨r,5,none⟩ (ptr v)) r v q n p (SK n) 0 false/\Below w.heap.size w (w8.setCell ⟨r,5,none⟩ (ptr v))/\(∀j,j<w.heap.size->own8 j=0)/\w.heap.size<=r from
  ⟨⟨hv8.box ⟨b8.1,b8.2⟩ de de ⟨oM,oM⟩ hu9,by rw[hp1,hp2];exact zh b8.1 5 (ptr v),b8.2⟩,
   zj (zj (Upd.below hw6) et.upd (qXo _) (fun k hk=>Nat.le_of_not_lt fun hlt=>hk.1 (hl k hlt))) hu9 (qXo _) (fun k hk=>by rw[hk];exact hwr),
   fun j hj=>(et.old j (qXr hj hw6.size)).trans (hl j hj),hwr⟩)
 clear hv8 hp1 hp2 e8 b8 d7 e7 b7 bo hlow hw6 hbase hom hwr hnl htl hu9 et hl hHeld hH1 hH2;go_wp2
 go_ret2
 exact⟨own8,r,v,q,p,rfl,HF2.o⟩
end Go.Proofs.YtpejdgiccaijfaaGreatDoor
