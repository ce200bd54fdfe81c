/- Things as sect -/
import Derived.Test.YtfhfbpmlnjdfoaaGreatDoorG05
import Derived.Laws.StructEq
set_option maxRecDepth 100000
set_option maxHeartbeats 2000000
namespace Go.Proofs.YtfhfbpmlnjdfoaaGreatDoor
open Go Go.RowKit Tryz
theorem wu{P:Prop}(h:P:=by
 have H:=Y7 hs hN htell hmay hk hl hm;have HC:=qqh hcs;clear hs hN htell hmay hk hl hm hcs;have hr:((w.alloc (.cells #[.int .i64 (k:Int),.slice (some ⟨gs,0,none⟩) m cl,.func (.func ft) #[] ct,.func (.func fm) #[] cm,bv] SY)).alloc (.cells cs.toArray SZ)).rangeAt (w.heap.size+1) 0 cs:=zh (zc _ _ oe);go_enter q3c,q4c
 go_wp2_with (first
  |(refine qZg rfl _ _ rfl _ _ rfl _ _ (qYp hr _) q5c rfl HC.o ?_)
  |fail)
 show Calls _ _ _ (((w.alloc (.cells #[.int .i64 (k:Int),.slice (some ⟨gs,0,none⟩) m cl,.func (.func ft) #[] ct,.func (.func fm) #[] cm,bv] SY)).alloc (.cells cs.toArray SZ)).alloc (.cells (bkC zB).toArray 54)) _;obtain⟨h1,h2,h3,h4,h5⟩:=yJ w (.cells #[.int .i64 (k:Int),.slice (some ⟨gs,0,none⟩) m cl,.func (.func ft) #[] ct,.func (.func fm) #[] cm,bv] SY) (.cells cs.toArray SZ) (.cells (bkC zB).toArray 54);clear hr;generalize ((w.alloc (.cells #[.int .i64 (k:Int),.slice (some ⟨gs,0,none⟩) m cl,.func (.func ft) #[] ct,.func (.func fm) #[] cm,bv] SY)).alloc (.cells cs.toArray SZ)).alloc (.cells (bkC zB).toArray 54)=w3 at*;refine(H.o.2.2.1 w3 (Upd.below h5)).mono ?_;rintro e w4 ⟨gl,c4,rfl,hc4,hc5,hr4,hb4⟩;have hu4:=qqb hb4;have f1:=(hu4.block _ (zf h1) id).trans h1;have f3:=(hu4.block _ (zf h3) id).trans h3;have m3:w4.cell? ⟨w.heap.size,3,none⟩=some (.func (.func fm) #[] cm):=za f1 3;have H4:=Y5 hr4 (h5.trans hu4) f1 f3 h4;clear h1 h2 h3 h4 h5 hr4 hb4 hu4 f1 f3;go_wp2_with fail
 refine(H.o.2.2.2.1 w4 gl c4 hc4 hc5 (Upd.below H4.o.2.1) H4.o.1).mono ?_;rintro e w5 ⟨rfl,hb5⟩;have hu5:=qqb hb5;obtain⟨r4,u4,f1,f3,z4⟩:=H4.o;have r5:=hu5.range r4 id;have g1:=(hu5.block _ (zf f1) id).trans f1;have g3:=(hu5.block _ (zf f3) id).trans f3;have m0:w5.cell? ⟨w.heap.size,0,none⟩=some (.int .i64 (k:Int)):=za g1 0;have z5:w.heap.size+3<=w5.heap.size:=by have h1:=zf g3;have h2:=hu5.size;have h3:=u4.size;have h4:=zf f3;have h5:=z4;have h6:=H4.o.2.2.2.2;omega
 have H5:=Y4 r5 (u4.trans hu5) g1 g3;clear r4 u4 f1 f3 z4 r5 g1 g3 hu5 hb5 m3;go_wp2_with fail
 generalize hM:w.heap.size=M at*;have HM:=qqh hM;clear hM;refine qZj (S:=fun W=>W.cell? ⟨M,0,none⟩=some (.int .i64 (k:Int))) kR (by rw[qYo];exact m0) (fun hHeld=>?_);refine qZf (i:=1) (v:=?_) rfl kR kR kR (fun _ _ _ h=>h) (Or.inl ⟨by rfl,?_⟩) hHeld ?_
 rotate_left
 .intro W hSw;(try dsimp only at hSw);(try go_split_ands);go_simp;(try with_reducible rfl)
 simp only[Act.put,qXi];refine qZf (i:=2) (v:=?_) rfl kR kR kR (fun _ _ _ h=>h) (Or.inl ⟨by rfl,?_⟩) hHeld ?_
 rotate_left
 .intro W hSw;(try dsimp only at hSw);(try go_split_ands);go_simp;(try with_reducible rfl)
 simp only[Act.put];refine Wl.r 0 (fun K hK=>?_);go_simp
 refine(Av _).mono ?_;rintro e w6 ⟨g,rfl,hW,hge,hB⟩;have hge':w5.heap.size<=g:=hge;refine hK.o _ _ ((uuo (S:=fun _=>False) hB).j4 hHeld id) (fun hHeld2=>?_);clear hK K;refine Wl.r 3 (fun K hK=>?_);go_simp
 refine(zbK hW k 1 de de (by have:=H.o.2.2.2.2.1;omega) de).mono ?_;rintro e w7 ⟨rfl,hW2,hU⟩;refine hK.o _ _ (hU.j4 hHeld2 oM) (fun hHeld3=>?_);clear hK K;refine Wl.r 4 (fun K hK=>?_);go_simp
 refine hK.o _ _ (hHeld3) (fun _=>?_);clear hK K;refine Wl.d ?_;obtain⟨r5,u5,g1,g3⟩:=H5.o;obtain⟨hs,hN,-,-,hk,hl,hm⟩:=H.o;have u57:Upd (fun j=>j=g) w5 w7:=((uuo (S:=fun _=>False) (yu hB)).mono fE).trans hU;have glt:gl<w5.heap.size\/m=0:=by
  rcases qXt m with h|h
  .exact .inr h
  .exact .inl (qYn w5 _ (r5 0 _ (sM oM)))
 have nM:w.heap.size=M:=HM.o;have gslt:gs<w.heap.size\/m=0:=by
  rcases qXt m with h|h
  .exact .inr h
  .exact .inl (qYn w _ (hs 0 _ (qG oM)))
 have ws5:=u5.size;have m1:w7.cell? ⟨M,1,none⟩=some (.slice (some ⟨gs,0,none⟩) m cl):=u57.j4 (za g1 1) oM;have g3':=(u57.block (M+1+1) (zf g3) oM).trans g3;have hN7:Nib w7:=((hN.keep u5 id).keep u57 (by have:=hN.lt;omega))
 have hlow:Below M w w7:=zk (by rw[<-nM];exact Upd.below u5) u57 (by rw[<-nM];exact qXv _) (fun k e=>oM);have hr7:∀i (hi:i<l.length) W,Upd (fun j=>j=g) w7 W->W.cell? ⟨gl,0+i,none⟩=some (.int .i64 (l[i].1:Int)):=fun i hi W hW=>hW.j4 (u57.j4 (r5 i _ (sM hi)) oM) oM;have hs7:∀i (hi:i<l.length) W,Upd (fun j=>j=g) w7 W->W.cell? ⟨gs,0+i,none⟩=some (.int .i64 (l[i].2:Int)):=fun i hi W hW=>hW.j4 (u57.j4 ((u5.range hs id) i _ (qG hi)) oM) oM;have H7:=Y9 hr7 hs7 m1 g3' hN7 hlow hl hm hW2;have hgeM:M<=g:=oM;have hgM:¬M=g:=oM;have hgM2:¬M+1+1=g:=oM;have hMw:=zf g3'
 rename_i hx
 clear hx hHeld hHeld2 hHeld3 hW hge hB hU hW2 hN hs hk hl hm r5 u5 g1 g3 u57 glt gslt nM ws5 m1 g3' hN7 hlow hr7 hs7 m0;go_wp2
 go_loopw[26] (fun s26 wr=>∃i:Nat,i<=m/\s26=.int .i64 i/\WrAt wr g (lowB k 1++encB (l.take i))/\Upd (fun j=>j=g) w7 wr) (fun s26 _=>m-(intOf s26).toNat)
 case atStart=>exact⟨0,qYf _,rfl,by simpa[encB]using H7.o.2.2.2.2.2.2.2.2,uur _ _⟩
 case round=>
  obtain⟨i,hi,rfl,hW,hu⟩:=hrel;by_cases hlt:i<m
  .obtain ⟨hr7,hs7,m1,g3',hN7,hlow,hl,hm,-⟩:=H7.o;have hil:i<l.length:=oM;have x1:=hr7 i hil wr hu;have x2:=hs7 i hil wr hu;have x3:=hu.j4 m1 hgM;rw[qYe]at x1 x2;have hfit:=hl.1 l[i] (qyz hil);have hsz:=Wj l hil;have hts:Hid (encB (l.take (i+1))=encB (l.take i)++lowB l[i].1 l[i].2):=by show _=_;rw[qXq hil,UK]
   have hlen:(lowB k 1++encB (l.take i)).length+l[i].2<=60:=by
    rw[qzd,yj,ut];have:=hl.2;omega
   have b1:(0:Int)<=(i:Int)/\(i:Int)<(m:Int):=oM;have HX:=Y4 hW hu hfit hlen;clear hr7 hs7 m1 g3' hN7 hlow hl hm hW hu hfit hsz hlen;obtain⟨b1,b2⟩:=b1;generalize l[i]=p at*;go_wp2_with fail
   refine(zbK HX.o.1 p.1 p.2 HX.o.2.2.1.2.1 HX.o.2.2.1.2.2 HX.o.2.2.1.1 HX.o.2.2.2).mono ?_;rintro e w8 ⟨rfl,hW8,hU8⟩;have HZ:=Y2 hW8 hU8;clear hW8 hU8;go_wp2
   go_roundw
   case rel=>exact⟨i+1,oM,by go_num,by rw[hts.out,<-qxx];exact HZ.o.1,HX.o.2.1.trans HZ.o.2⟩
   case measure=>simp[intOf];omega
  .obtain rfl:i=m:=oM;obtain⟨hr7,hs7,m1,g3',hN7,hlow,hl,hm,-⟩:=H7.o;have hN8:=hN7.keep hu (by have:=(H.o.2.1).lt;have:=HM.o;omega);rw[qXp oM]at hW;have hg3:=(hu.block (M+1+1) (zf g3') hgM2).trans g3';have hlen:Hid ((sectB k l).length=64):=vt hl.2;have HX:=Y6 hW hN8 hu hg3 hlow hl;have hus:=hu.size;clear hr7 hs7 m1 g3' hN7 hlow hl hm hW hu hN8 hg3;go_wp2_with fail
   refine(zbM HX.o.1 HX.o.2.1).mono ?_;rintro e w9 ⟨rfl,hb9⟩;have hg9:=(hb9.block (M+1+1) (zf HX.o.2.2.2.1)).trans HX.o.2.2.2.1;have hth:w9.there (M+1+1) 0 64:=fun j hj=>by
    rw[za hg9,zg hg9];exact⟨by rw[qYe,qxe oT];rfl,rfl⟩
   have hbl:Hid (Below M w w9):=(zk HX.o.2.2.2.2.1 HX.o.2.2.1 jA (fun k e=>oM)).trans (hb9.mono oM);have hsl:=hlen.out;have hst:w9.there (M+1+1) 0 (bkC (sectB k l)).toArray.size:=by rw[zp _ hsl];exact hth
   have hst2:w9.there (M+1+1) 0 (bkC (sectB k l)).length:=by rw[zo,hsl];exact hth
   have hsz2:(prog.info? 54).map (·.size)=some (bkC (sectB k l)).toArray.size:=by rw[zp _ hsl];exact zP
   have HST:=Y4 hst hsz2 hst2 hsl;clear hst hsz2 hst2 hsl hg9 hth hb9 hlen;rw[show sealB (padB (lowB k 1++encB l))=sectB k l from rfl];generalize hsb:sectB k l=sb at*;have Hsb:=qqh hsb;clear hsb;go_wp2_with (first
    |(refine qZi rfl _ _ _ rfl _ _ (bkC sb).toArray rfl rfl HST.o.1 HST.o.2.1 (qYu (zx _)) ?_)
    |fail)
   refine qYw (zt rfl _ _ (M+1+1) 0 (bkC sb) _ rfl (qYr _ _ _ _ HST.o.2.2.1) underlying54 rfl (zw _ HST.o.2.2.2)) rfl
     ⟨by rw[Hsb.out];rfl,?_⟩
   rw[HM.o];exact zk hbl.out (zq w9 (M+1+1) 0 _) jA (fun k e=>oM)):P:=h
theorem wR{P:Prop}(h:P:=by
 have H:=Y2 htell hmay;have HC:=qqh hcs;clear htell hmay hcs;have hr:((w.alloc (.cells #[.int .i64 (k:Int),.slice (some ⟨gs,0,none⟩) m cl,.func (.func ft) #[] ct,.func (.func fm) #[] cm,bv] SY)).alloc (.cells cs.toArray SZ)).rangeAt (w.heap.size+1) 0 cs:=zh (zc _ _ oe);go_enter q3c,q4c
 go_wp2_with (first
  |(refine qZg rfl _ _ rfl _ _ rfl _ _ (qYp hr _) q5c rfl HC.o ?_)
  |fail)
 show Calls _ _ _ (((w.alloc (.cells #[.int .i64 (k:Int),.slice (some ⟨gs,0,none⟩) m cl,.func (.func ft) #[] ct,.func (.func fm) #[] cm,bv] SY)).alloc (.cells cs.toArray SZ)).alloc (.cells (bkC zB).toArray 54)) _;obtain⟨h1,h2,h3,h4,h5⟩:=yJ w (.cells #[.int .i64 (k:Int),.slice (some ⟨gs,0,none⟩) m cl,.func (.func ft) #[] ct,.func (.func fm) #[] cm,bv] SY) (.cells cs.toArray SZ) (.cells (bkC zB).toArray 54);clear hr;generalize ((w.alloc (.cells #[.int .i64 (k:Int),.slice (some ⟨gs,0,none⟩) m cl,.func (.func ft) #[] ct,.func (.func fm) #[] cm,bv] SY)).alloc (.cells cs.toArray SZ)).alloc (.cells (bkC zB).toArray 54)=w3 at*;refine(H.o.1 w3 (Upd.below h5)).mono ?_;rintro e w4 ⟨gl,c4,rfl,hc4,hc5,hr4,hb4⟩;have hu4:=qqb hb4;have f1:=(hu4.block _ (zf h1) id).trans h1;have f3:=(hu4.block _ (zf h3) id).trans h3;have m3:w4.cell? ⟨w.heap.size,3,none⟩=some (.func (.func fm) #[] cm):=za f1 3;have H4:=Y5 hr4 (h5.trans hu4) f1 f3 h4;clear h1 h2 h3 h4 h5 hr4 hb4 hu4 f1 f3;go_wp2_with fail
 refine(H.o.2 w4 gl c4 hc4 hc5 (Upd.below H4.o.2.1) H4.o.1).mono ?_;rintro e w5 ⟨rfl,hb5⟩;have hu5:=qqb hb5;obtain⟨r4,u4,f1,f3,z4⟩:=H4.o;have g3:=(hu5.block _ (zf f3) id).trans f3;have hth:w5.there (w.heap.size+1+1) 0 64:=fun j hj=>by
  rw[za g3,zg g3];exact⟨by rw[qYe,qxe oT];rfl,rfl⟩
 obtain⟨z,Hz⟩:∃z:Bk,Hid (z=zB):=⟨zB,rfl⟩
 have hst:w5.there (w.heap.size+1+1) 0 (bkC z).toArray.size:=by rw[Hz.out,zp _ zK];exact hth
 have hst2:w5.there (w.heap.size+1+1) 0 (bkC z).length:=by rw[Hz.out,zo,zK];exact hth
 have hsz2:(prog.info? 54).map (·.size)=some (bkC z).toArray.size:=by rw[Hz.out,zp _ zK];exact zP
 have HST:=Y3 hst hsz2 hst2;have HU:=qqh (u4.trans hu5);clear r4 u4 f1 f3 z4 hst hst2 hsz2 hth hu5 hb5 g3 m3;go_wp2_with (first
   |(refine qZi rfl _ _ _ rfl _ _ (bkC z).toArray rfl (by rw[Hz.out];rfl) HST.o.1 HST.o.2.1 (qYu (zx _)) ?_)
   |fail)
 exact qYw (zt rfl _ _ (w.heap.size+1+1) 0 (bkC z) _ rfl (qYr _ _ _ _ HST.o.2.2) underlying54 rfl (by rw[Hz.out];exact zw zB zK)) rfl
  ⟨by rw[Hz.out];rfl,zk (Upd.below HU.o) (zq w5 (w.heap.size+1+1) 0 _) (qXv _) (fun k e=>oM)⟩):P:=h
namespace fPutR
abbrev SY:Nat:=296
abbrev SZ:Nat:=101
theorem q3c:type_of% @func326:= @func326
theorem q4c:type_of% @ntmps326:= @ntmps326
theorem q5c:type_of% @underlying101:= @underlying101
end fPutR
open fPutR in
theorem YP{w:World}(k:Nat)(hk:k<256)(l:List (Nat×Nat))(hl:Zt l)(m:Nat)(hm:l.length=m)(hm2:m<=100)(gs cl:Nat)(ft fm:Nat)(ct cm:Array Value)(bv:Value)(_hbv:bv.oneCell'=true)(cs:List Value)
  (hcs:(prog.info? 101).map (·.size)=some cs.length) (hs:w.rangeAt gs 0 (ints (wP l))) (hN:Nib w)
  (entT:∀args w,(callFunc ft args).run prog w=.ok (.enter ft args) w) (entM:∀args w,(callFunc fm args).run prog w=.ok (.enter fm args) w)
  (htell:∀W,Below w.heap.size w W->Calls prog ft (#[.agg cs.toArray]++ct) W (zS W m (numsL l)))
  (hmay:∀W gl c,m<=c->c<=maxLen->Below w.heap.size w W->W.rangeAt gl 0 (ints (numsL l))->Calls prog fm (#[.slice (some ⟨gl,0,none⟩) m c]++cm) W fun e W'=>e=.returned (.bool true)/\Below W.heap.size W W'):
  Calls prog 326 #[.agg #[.int .i64 (k:Int),.slice (some ⟨gs,0,none⟩) m cl,.func (.func ft) #[] ct,.func (.func fm) #[] cm,bv],.agg cs.toArray] w
   fun e w'=>e=.returned (.tuple #[.agg (bkC (sectB k l)).toArray,.int .i64 0])/\Below w.heap.size w w':=wu
open fPutR in
theorem VB{w:World}(k:Nat)(xs:List Int)(m:Nat)(gs cl:Nat)(ft fm:Nat)(ct cm:Array Value)(bv:Value)(_hbv:bv.oneCell'=true)(cs:List Value)
  (hcs:(prog.info? 101).map (·.size)=some cs.length)
  (entT:∀args w,(callFunc ft args).run prog w=.ok (.enter ft args) w) (entM:∀args w,(callFunc fm args).run prog w=.ok (.enter fm args) w)
  (htell:∀W,Below w.heap.size w W->Calls prog ft (#[.agg cs.toArray]++ct) W (zS W m xs))
  (hmay:∀W gl c,m<=c->c<=maxLen->Below w.heap.size w W->W.rangeAt gl 0 (ints xs)->Calls prog fm (#[.slice (some ⟨gl,0,none⟩) m c]++cm) W fun e W'=>e=.returned (.bool false)/\Below W.heap.size W W'):
  Calls prog 326 #[.agg #[.int .i64 (k:Int),.slice (some ⟨gs,0,none⟩) m cl,.func (.func ft) #[] ct,.func (.func fm) #[] cm,bv],.agg cs.toArray] w
   fun e w'=>e=.returned (.tuple #[bkV zB,.int .i64 10])/\Below w.heap.size w w':=wR
namespace fPutS
abbrev SY:Nat:=137
abbrev SZ:Nat:=40
theorem q3c:type_of% @func65:= @func65
theorem q4c:type_of% @ntmps65:= @ntmps65
theorem q5c:type_of% @underlying40:= @underlying40
end fPutS
open fPutS in
theorem Qu{w:World}(k:Nat)(hk:k<256)(l:List (Nat×Nat))(hl:Zt l)(m:Nat)(hm:l.length=m)(hm2:m<=100)(gs cl:Nat)(ft fm:Nat)(ct cm:Array Value)(bv:Value)(_hbv:bv.oneCell'=true)(cs:List Value)
  (hcs:(prog.info? 40).map (·.size)=some cs.length) (hs:w.rangeAt gs 0 (ints (wP l))) (hN:Nib w)
  (entT:∀args w,(callFunc ft args).run prog w=.ok (.enter ft args) w) (entM:∀args w,(callFunc fm args).run prog w=.ok (.enter fm args) w)
  (htell:∀W,Below w.heap.size w W->Calls prog ft (#[.agg cs.toArray]++ct) W (zS W m (numsL l)))
  (hmay:∀W gl c,m<=c->c<=maxLen->Below w.heap.size w W->W.rangeAt gl 0 (ints (numsL l))->Calls prog fm (#[.slice (some ⟨gl,0,none⟩) m c]++cm) W fun e W'=>e=.returned (.bool true)/\Below W.heap.size W W'):
  Calls prog 65 #[.agg #[.int .i64 (k:Int),.slice (some ⟨gs,0,none⟩) m cl,.func (.func ft) #[] ct,.func (.func fm) #[] cm,bv],.agg cs.toArray] w
   fun e w'=>e=.returned (.tuple #[.agg (bkC (sectB k l)).toArray,.int .i64 0])/\Below w.heap.size w w':=wu
open fPutS in
theorem Jm{w:World}(k:Nat)(xs:List Int)(m:Nat)(gs cl:Nat)(ft fm:Nat)(ct cm:Array Value)(bv:Value)(_hbv:bv.oneCell'=true)(cs:List Value)
  (hcs:(prog.info? 40).map (·.size)=some cs.length)
  (entT:∀args w,(callFunc ft args).run prog w=.ok (.enter ft args) w) (entM:∀args w,(callFunc fm args).run prog w=.ok (.enter fm args) w)
  (htell:∀W,Below w.heap.size w W->Calls prog ft (#[.agg cs.toArray]++ct) W (zS W m xs))
  (hmay:∀W gl c,m<=c->c<=maxLen->Below w.heap.size w W->W.rangeAt gl 0 (ints xs)->Calls prog fm (#[.slice (some ⟨gl,0,none⟩) m c]++cm) W fun e W'=>e=.returned (.bool false)/\Below W.heap.size W W'):
  Calls prog 65 #[.agg #[.int .i64 (k:Int),.slice (some ⟨gs,0,none⟩) m cl,.func (.func ft) #[] ct,.func (.func fm) #[] cm,bv],.agg cs.toArray] w
   fun e w'=>e=.returned (.tuple #[bkV zB,.int .i64 10])/\Below w.heap.size w w':=wR
namespace fPutP
abbrev SY:Nat:=380
abbrev SZ:Nat:=280
theorem q3c:type_of% @func316:= @func316
theorem q4c:type_of% @ntmps316:= @ntmps316
theorem q5c:type_of% @underlying280:= @underlying280
end fPutP
open fPutP in
theorem YQ{w:World}(k:Nat)(hk:k<256)(l:List (Nat×Nat))(hl:Zt l)(m:Nat)(hm:l.length=m)(hm2:m<=100)(gs cl:Nat)(ft fm:Nat)(ct cm:Array Value)(bv:Value)(_hbv:bv.oneCell'=true)(cs:List Value)
  (hcs:(prog.info? 280).map (·.size)=some cs.length) (hs:w.rangeAt gs 0 (ints (wP l))) (hN:Nib w)
  (entT:∀args w,(callFunc ft args).run prog w=.ok (.enter ft args) w) (entM:∀args w,(callFunc fm args).run prog w=.ok (.enter fm args) w)
  (htell:∀W,Below w.heap.size w W->Calls prog ft (#[.agg cs.toArray]++ct) W (zS W m (numsL l)))
  (hmay:∀W gl c,m<=c->c<=maxLen->Below w.heap.size w W->W.rangeAt gl 0 (ints (numsL l))->Calls prog fm (#[.slice (some ⟨gl,0,none⟩) m c]++cm) W fun e W'=>e=.returned (.bool true)/\Below W.heap.size W W'):
  Calls prog 316 #[.agg #[.int .i64 (k:Int),.slice (some ⟨gs,0,none⟩) m cl,.func (.func ft) #[] ct,.func (.func fm) #[] cm,bv],.agg cs.toArray] w
   fun e w'=>e=.returned (.tuple #[.agg (bkC (sectB k l)).toArray,.int .i64 0])/\Below w.heap.size w w':=wu
open fPutP in
theorem VC{w:World}(k:Nat)(xs:List Int)(m:Nat)(gs cl:Nat)(ft fm:Nat)(ct cm:Array Value)(bv:Value)(_hbv:bv.oneCell'=true)(cs:List Value)
  (hcs:(prog.info? 280).map (·.size)=some cs.length)
  (entT:∀args w,(callFunc ft args).run prog w=.ok (.enter ft args) w) (entM:∀args w,(callFunc fm args).run prog w=.ok (.enter fm args) w)
  (htell:∀W,Below w.heap.size w W->Calls prog ft (#[.agg cs.toArray]++ct) W (zS W m xs))
  (hmay:∀W gl c,m<=c->c<=maxLen->Below w.heap.size w W->W.rangeAt gl 0 (ints xs)->Calls prog fm (#[.slice (some ⟨gl,0,none⟩) m c]++cm) W fun e W'=>e=.returned (.bool false)/\Below W.heap.size W W'):
  Calls prog 316 #[.agg #[.int .i64 (k:Int),.slice (some ⟨gs,0,none⟩) m cl,.func (.func ft) #[] ct,.func (.func fm) #[] cm,bv],.agg cs.toArray] w
   fun e w'=>e=.returned (.tuple #[bkV zB,.int .i64 10])/\Below w.heap.size w w':=wR
theorem vK:∀(xs ys:List Int),xs.length=ys.length->((List.range xs.length).all fun i=>xs.getD i 0==ys.getD i 0)=(xs==ys)
 |[],[],_=>rfl
 |x::xs,y::ys,h=>by
  have ih:=vK xs ys (by simpa using h);rw[qze,List.range_succ_eq_map,List.all_cons,List.all_map];simp only[List.getD_cons_zero,Function.comp_def,List.getD_cons_succ,ih];simp[List.cons_beq_cons]
 |[],_::_,h=>by simp at h
 |_::_,[],h=>by simp at h
section
variable{P:Program}(w:World)
theorem uW(d:Nat)(t e:TypeId)(n:Nat)(ht:P.underlying t=some (.array n e))(he:P.underlying e=some (.int .i64))(hsz:∀w,(sizeOf e).run P w=.ok 1 w)
  (xs ys:List Int) (hx:xs.length=n) (hy:ys.length=n):
  (Op.equalIn (d+2) t (.agg (ints xs).toArray) (.agg (ints ys).toArray)).run P w=.ok (xs==ys) w:=by
 rw[<-vK xs ys (hx.trans hy.symm),hx,List.range_eq_range',Op.equalIn];simp only[qYm,qZd ht,qYl,hsz,Std.Legacy.Range.forIn_eq_forIn_range',Std.Legacy.Range.size,Nat.sub_zero,Nat.add_sub_cancel,Nat.div_one];have hl:∀i∈List.range' 0 n 1,i<n:=fun i hi=>by simpa using(List.mem_range'_1.1 hi).2
 generalize List.range' 0 n 1=l at hl⊢
 induction l with
 |nil=>simp
 |cons i l ih=>
  have hi:i<n:=hl i oe;have px:(part e (ints xs).toArray (i*1)).run P w=.ok (.int .i64 (xs.getD i 0)) w:=by
   simp[ints,part,isAgg,run_underlying he,List.getD,List.getElem?_eq_getElem (show i<xs.length by omega)]
  have py:(part e (ints ys).toArray (i*1)).run P w=.ok (.int .i64 (ys.getD i 0)) w:=by
   simp[ints,part,isAgg,run_underlying he,List.getD,List.getElem?_eq_getElem (show i<ys.length by omega)]
  have pe:(Op.equalIn (d+1) e (.int .i64 (xs.getD i 0)) (.int .i64 (ys.getD i 0))).run P w=.ok (xs.getD i 0==ys.getD i 0) w:=by
   rw[run_equalIn_int w d e .i64 .i64 _ _ he]
  simp only[List.forIn_cons,qYm,px,py,pe,qYl,List.all_cons];cases hb:(xs.getD i 0==ys.getD i 0)
  .simp
  .simp only[Bool.not_true,Bool.false_eq_true,if_false,Sem.run_pure,qYl,qxp];exact ih fun j hj=>hl j (by simp[hj])
theorem Zv(t e:TypeId)(n:Nat)(ht:P.underlying t=some (.array n e))(he:P.underlying e=some (.int .i64))(hsz:∀w,(sizeOf e).run P w=.ok 1 w)
  (xs ys:List Int) (hx:xs.length=n) (hy:ys.length=n):
  (binOp .eql t (.agg (ints xs).toArray) (.agg (ints ys).toArray)).run P w=.ok (.bool (xs==ys)) w:=by
 rw[run_eql_struct,uW w 9998 t e n ht he hsz xs ys hx hy];rfl
end
def rowI(xs:List Int)(i:Nat):List Int:=(xs.drop (4+4*i)).take 4
theorem xU{xs:List Int}(h:xs.length=20){i:Nat}(hi:i<4):(rowI xs i).length=4:=by simp[rowI];omega
def bndE:List (Int×Int):=[(0,4095),(0,1023),(0,1),(0,4294967295)]
def entB(xs:List Int)(i:Nat):Bool:=if(i:Int)<xs.getD 3 0 then withinB bndE (rowI xs i)else decide (rowI xs i=[0,0,0,0])
def entsB(xs:List Int):Bool:=(List.range 4).all (entB xs)
def bndP:List (Int×Int):=[(0,1099511627776),(0,255),(1,256),(0,4)]
def mayP(xs:List Int):Bool:=withinB bndP xs&&decide (xs.getD 1 0<xs.getD 2 0)&&entsB xs
theorem Wo:(prog.info? 419).map (·.size)=some 4:=kR
theorem YR(xs:List Int):∀v∈ints xs,v.oneCell'=true:=by
 intro v hv;simp only[ints,qzv]at hv;obtain⟨x,-,rfl⟩:=hv;rfl
theorem VD{w:World}{g o c:Nat}{xs:List Int}(hr:w.rangeAt g o (ints xs))(hx:xs.length=20)(hc:20<=c)(hm:c<=maxLen)(i:Nat)(hi:i<4):
  Calls prog 311 #[.slice (some ⟨g,o,none⟩) 20 c,.int .i64 (i:Int)] w fun e w'=>e=.returned (.agg (ints (rowI xs i)).toArray)/\Below w.heap.size w w':=by
 have hr2:w.rangeAt g (o+(4+4*i)) (ints (rowI xs i)):=fun j v hv=>by
  have hj:=(qyp.1 hv).1;rw[ints,qzg,xU hx hi]at hj;rw[qXr];refine hr _ v ?_;rw[<-hv,ints,ints,qyq,qyq,rowI,qyu,if_pos hj,qym]
 have hl:(ints (rowI xs i)).length=4:=by rw[ints,qzg,xU hx hi]
 have hsz:(prog.info? 419).map (·.size)=some (ints (rowI xs i)).length:=by rw[hl];exact Wo
 have h1:=YR (rowI xs i);have hat:=fun(w:World) (a:Option Addr) (cc:Nat)=>run_arrayAt (P:=prog) w 419 3 4 a (8+4*i-(4+4*i)) cc underlying419 oM;unfold maxLen at hm;have b1:(i:Int)<4:=oM;have b2:(0:Int)<=(i:Int):=oM;have b3:(4:Int)+4*(i:Int)<=8+4*(i:Int):=oM;have b4:(8:Int)+4*(i:Int)<=(c:Int):=oM;have e1:((4:Int)+4*(i:Int)).toNat=4+4*i:=oM;have e2:((8:Int)+4*(i:Int)).toNat=8+4*i:=oM;have hne:¬c=4+4*i:=oM;have hrA:=qYp hr2 (.cells #[.int .i64 0,.int .i64 0,.int .i64 0,.int .i64 0] 419);generalize ints (rowI xs i)=L at*;have H:=Y3 hl hsz h1;clear hr hx hl h1 hr2 hsz;go_enter func311,ntmps311
 go_wp2_with (first
  |refine qZg rfl _ _ rfl _ _ rfl _ _ hrA underlying419 rfl H.o.2.1 ?_
  |(refine zl rfl _ _ _ rfl _ _ _ rfl rfl (by rw[H.o.1];rfl) H.o.2.1 H.o.2.2 ?_)
  |fail)
 exact qYw (zI rfl _ _ w.heap.size 0 L _ rfl (zh (zc w _ rfl)) underlying419 rfl H.o.2.1) rfl ⟨rfl,(qxl _ w).alloc (qXv _) _⟩
theorem Qv{w:World}{g o c:Nat}{xs:List Int}(hr:w.rangeAt g o (ints xs))(hx:xs.length=20)(hc:20<=c)(hm:c<=maxLen):
  Calls prog 309 #[.slice (some ⟨g,o,none⟩) 20 c] w fun e w'=>e=.returned (.bool (entsB xs))/\Below w.heap.size w w':=by
 have hgl:g<w.heap.size:=qYn w _ (yR hr (i:=0) oM);have H:=Y4 hr hx hc hm;clear hr hx hc hm;go_enter func309,ntmps309
 go_wp2
 go_step3
 go_wp2_with fail
 refine(xu).mono ?_;rintro e w1 ⟨rfl,rfl⟩;have hrb:(w.alloc (.cells (bndC bndE).toArray 219)).rangeAt w.heap.size 0 (bndC bndE):=zh (zc w _ rfl);have hz1:(w.alloc (.cells (bndC bndE).toArray 219)).heap.size=w.heap.size+1:=oe;have hBnd:Bnd ((w.alloc (.cells #[.int .i64 0,.int .i64 4095,.int .i64 0,.int .i64 1023,.int .i64 0,.int .i64 1,.int .i64 0,.int .i64 4294967295] 219)).alloc (.cells #[.slice (some ⟨w.heap.size,0,none⟩) 4 4] 321)) (.func (.func 196) #[] #[.pointer (some ⟨w.heap.size+1,0,none⟩)]) bndE:=by
  have:=Bnd.made (c:=4) hrb;rw[hz1]at this;exact this
 have hb2:Below w.heap.size w ((w.alloc (.cells #[.int .i64 0,.int .i64 4095,.int .i64 0,.int .i64 1023,.int .i64 0,.int .i64 1,.int .i64 0,.int .i64 4294967295] 219)).alloc (.cells #[.slice (some ⟨w.heap.size,0,none⟩) 4 4] 321)):=((qxl _ w).alloc (qXv _) _).alloc oe _;clear hrb hz1;go_wp2
 go_step3
 go_wp2
 generalize (w.alloc (.cells #[.int .i64 0,.int .i64 4095,.int .i64 0,.int .i64 1023,.int .i64 0,.int .i64 1,.int .i64 0,.int .i64 4294967295] 219)).alloc (.cells #[.slice (some ⟨w.heap.size,0,none⟩) 4 4] 321)=w2 at*;have HB:=Y2 hBnd hb2;clear hBnd hb2;go_loopw[4,13] (fun s4 s13 wr=>∃k:Nat,k<=4/\s13=.int .i64 k/\s4=.bool true/\(List.range k).all (entB xs)=true/\Below w.heap.size w wr/\Bnd wr (.func (.func 196) #[] #[.pointer (some ⟨w.heap.size+1,0,none⟩)]) bndE) (fun _ s13 _=>4-(intOf s13).toNat)
 case atStart=>exact⟨0,oM,rfl,rfl,oe,HB.o.2,HB.o.1⟩
 case round=>
  obtain⟨k,hk,rfl,rfl,hall,hb,hBn⟩:=hrel;have HA:=Y3 hall hb hBn;by_cases hlt:k<4
  .have hnext:Hid (∀b,entB xs k=b->(List.range (k+1)).all (entB xs)=b):=fun b hb=>by
    rw[qXh,List.all_append,HA.o.1];simp[hb]
   have hstop:Hid (entB xs k=false->entsB xs=false):=fun hb=>by
    unfold entsB;rw[<-Bool.not_eq_true];intro e;rw[qxw]at e;have:=e k oh;rw[hb]at this;cases this
   have hxl:=H.o.2.1;obtain⟨x3,hx3⟩:∃x3,xs.getD 3 0=x3:=⟨_,rfl⟩
   have c3:wr.cell? ⟨g,o+3,none⟩=some (.int .i64 x3):=by
    have:=yR (Below.range hb H.o.1) (i:=3) oM;rw[this,<-hx3];simp[List.getD_eq_getElem?_getD,show 3<xs.length by omega]
   have b1:(0:Int)<=(k:Int):=oM;have b2:(k:Int)<4:=oM;have hcc:=H.o.2.2.1;have hcm:=H.o.2.2.2;unfold maxLen at hcm;have hrl:Hid ((rowI xs k).length=4):=xU hxl hlt;have hsz:(prog.info? 419).map (·.size)=some (ints (rowI xs k)).length:=by rw[ints,qzg,hrl.out];exact Wo
   have h1:=YR (rowI xs k);have hRow:=qqh (VD (Below.range hb H.o.1) hxl hcc H.o.2.2.2 k hlt);have HS:=Y2 hsz h1;have hent:Hid (entB xs k=if(k:Int)<x3 then withinB bndE (rowI xs k)else decide (rowI xs k=[0,0,0,0])):=by show _=_;rw[entB,hx3]
   clear hx3 hall hb hBn hxl hsz h1;by_cases h3:(k:Int)<x3
   .have q3:decide ((k:Int)<x3)=true:=by simpa using h3
    have hent2:Hid (entB xs k=withinB bndE (rowI xs k)):=by show _=_;rw[hent.out,if_pos h3]
    clear hent h3;obtain⟨bb,hbb⟩:∃bb,withinB bndE (rowI xs k)=bb:=⟨_,rfl⟩
    have HBB:=qqh hbb;cases bb
    all_goals
     clear hbb;go_wp2_with fail
     refine hRow.out.mono ?_;rintro e wa ⟨rfl,hba⟩;have hra:(wa.alloc (.cells (ints (rowI xs k)).toArray 419)).rangeAt wa.heap.size 0 (ints (rowI xs k)):=zh (zc wa _ rfl);have hua:Upd (fun _=>False) wr (wa.alloc (.cells (ints (rowI xs k)).toArray 419)):=(uuo hba).alloc _;have hBa:=HA.o.2.2.below (Upd.below hua);have c3a:=hua.j4 c3 id;have hbw:Below w.heap.size w (wa.alloc (.cells (ints (rowI xs k)).toArray 419)):=HA.o.2.1.trans ((Upd.below hua).mono HA.o.2.1.size);have HW:=Y3 hra hBa hbw;clear hra hua hBa hbw hba;go_wp2_with (first
      |(refine zl rfl _ _ _ rfl _ _ _ rfl rfl (by rw[ints,qzg,hrl.out];rfl) HS.o.1 HS.o.2 ?_)
      |fail)
     obtain⟨gB,hB',cB,hvB,hcB,hrB⟩:=HW.o.2.1;injection hvB with _ _ hvB
     injection hvB with hvB
     injection hvB with hvB
     injection hvB with hvB
     injection hvB with hvB
     injection hvB with hvB
     subst hvB;refine(yS bndE (rowI xs k) hcB hrB HW.o.1 hrl.out (by show 4<=4;decide) de).mono ?_;rw[HBB.o];rintro e wb ⟨rfl,hbb⟩;have hbw:Below w.heap.size w wb:=HW.o.2.2.trans (hbb.mono HW.o.2.2.size);have hBb:=HW.o.2.1.below hbb;have HV:=Y2 hbw hBb;clear hbw hBb hbb hcB hrB;go_wp2
    .rw [qxr];go_ret
     exact⟨by rw[hstop.out jF];rfl,HV.o.1⟩
    .go_roundw
     case rel=>exact⟨k+1,oM,by go_num,rfl,hnext.out true jF,HV.o.1,HV.o.2⟩
     case measure=>simp[intOf];omega
   .have q3:decide ((k:Int)<x3)=false:=by simpa using h3
    have hent2:Hid (entB xs k=(rowI xs k==[0,0,0,0])):=by show _=_;rw[hent.out,if_neg h3];exact(Bool.beq_eq_decide_eq _ _).symm
    clear hent h3;obtain⟨bb,hbb⟩:∃bb,(rowI xs k==[0,0,0,0])=bb:=⟨_,rfl⟩
    have HBB:=qqh hbb;have heq:∀w,(binOp .eql 419 (.agg (ints (rowI xs k)).toArray) (.agg #[.int .i64 0,.int .i64 0,.int .i64 0,.int .i64 0])).run prog w=.ok (.bool bb) w:=fun w=>by
     obtain⟨i,hi,hs⟩:=qYi.1 VA;simp only[qYk]at hs;rw[<-hbb];exact Zv w 419 3 4 underlying419 underlying3 (fun w=>by simp[sizeOf,typeInfo,hi,hs.2.1]) (rowI xs k) [0,0,0,0] hrl.out rfl
    cases bb
    all_goals
     clear hbb;go_wp2_with fail
     refine hRow.out.mono ?_;rintro e wa ⟨rfl,hba⟩;have hra:(wa.alloc (.cells (ints (rowI xs k)).toArray 419)).rangeAt wa.heap.size 0 (ints (rowI xs k)):=zh (zc wa _ rfl);have hua:Upd (fun _=>False) wr (wa.alloc (.cells (ints (rowI xs k)).toArray 419)):=(uuo hba).alloc _;have hBa:=HA.o.2.2.below (Upd.below hua);have c3a:=hua.j4 c3 id;have hbw:Below w.heap.size w (wa.alloc (.cells (ints (rowI xs k)).toArray 419)):=HA.o.2.1.trans ((Upd.below hua).mono HA.o.2.1.size);have HW:=Y3 hra hBa hbw;clear hua hBa hbw hba;go_wp2_with (first
      |(refine zl rfl _ _ _ rfl _ _ _ rfl rfl (by rw[ints,qzg,hrl.out];rfl) HS.o.1 HS.o.2 ?_)
      |(refine qZg rfl _ _ rfl _ _ rfl _ _ hra underlying419 rfl HS.o.1 ?_)
      |fail)
    .rw [qxr];go_ret
     exact⟨by rw[hstop.out jF];rfl,HW.o.2.2⟩
    .go_roundw
     case rel=>exact⟨k+1,oM,by go_num,rfl,hnext.out true jF,HW.o.2.2,HW.o.2.1⟩
     case measure=>simp[intOf];omega
  .obtain rfl:k=4:=oM;have hE:Hid (entsB xs=true):=hall;have HZ:=qqh hb;clear hall hb hBn;go_wp2
   rw[qxr];go_ret
   exact⟨by rw[hE.out];rfl,HZ.o⟩
theorem qM{w:World}{gl ol cl gt:Nat}{v:Value}(xs:List Int)(hxl:xs.length=20)(hcl:20<=cl)(hcm:cl<=maxLen)(hv:w.cell? ⟨gt,0,none⟩=some v)(hB:Bnd w v bndP)(hx:w.rangeAt gl ol (ints xs)):
  Calls prog 308 #[.slice (some ⟨gl,ol,none⟩) 20 cl,.pointer (some ⟨gt,0,none⟩)] w fun e w'=>e=.returned (.bool (mayP xs))/\Below w.heap.size w w':=by
 obtain⟨g,h,cc,rfl,hc,hr⟩:=hB;obtain⟨x1,hx1⟩:∃x1,xs.getD 1 0=x1:=⟨_,rfl⟩
 obtain⟨x2,hx2⟩:∃x2,xs.getD 2 0=x2:=⟨_,rfl⟩
 have c1:w.cell? ⟨gl,ol+1,none⟩=some (.int .i64 x1):=by
  rw[yR hx (i:=1) oM,<-hx1];simp[List.getD_eq_getElem?_getD,show 1<xs.length by omega]
 have c2:w.cell? ⟨gl,ol+2,none⟩=some (.int .i64 x2):=by
  rw[yR hx (i:=2) oM,<-hx2];simp[List.getD_eq_getElem?_getD,show 2<xs.length by omega]
 have hud:Upd (fun _=>False) w w.drew:=(uur _ _).drew;have HX:=Y6 (hud.range hx id) (hud.j4 hc id) (hud.range hr id) hxl hcl hcm;have HM:Hid (mayP xs=(withinB bndP xs&&decide (x1<x2)&&entsB xs)):=by show _=_;rw[mayP,hx1,hx2]
 clear hx hr hc hud hx1 hx2 hxl hcm;obtain⟨wb,hw⟩:∃wb,withinB bndP xs=wb:=⟨_,rfl⟩
 have HW:=qqh hw;cases wb
 .rw [hw]at HM;clear hw;go_enter func308,ntmps308
  go_wp2
  refine qZj (S:=fun W=>W.cell? ⟨gt,0,none⟩=some (.func (.func 196) #[] #[.pointer (some ⟨g,0,none⟩)])/\W.cell? ⟨gl,ol+1,none⟩=some (.int .i64 x1)/\W.cell? ⟨gl,ol+2,none⟩=some (.int .i64 x2)) kR (by(simp only[qYo]);exact⟨hv,c1,c2⟩) (fun hHeld=>?_);refine Wl.i [0,1] ?_;iterate 2 refine Wl.t hHeld ?_
  refine Wl.o ?_;refine Wl.r 2 (fun K hK=>?_);go_simp
  refine(yS bndP xs HX.o.2.1 HX.o.2.2.1 HX.o.1 HX.o.2.2.2.1 (by show 4<=20;decide) de).mono ?_;rw[HW.o];rintro e w' ⟨rfl,hb⟩;refine hK.o _ _ (have hU:=uuo (S:=fun _=>False) hb;⟨hU.j4 hHeld.1 id,hU.j4 hHeld.2.1 id,hU.j4 hHeld.2.2 id⟩) (fun hH1=>?_);clear hK K;refine Wl.i [3,4,5,6,7,8,9,10] ?_;iterate 8 refine Wl.t hH1 ?_
  refine Wl.o ?_;refine Wl.r 11 (fun K hK=>?_);go_simp
  refine hK.o _ _ (hH1) (fun hH2=>?_);clear hK K;refine Wl.i [12,13,14] ?_;iterate 3 refine Wl.t hH2 ?_
  refine Wl.o ?_;refine Wl.r 15 (fun K hK=>?_);go_simp
  refine hK.o _ _ (hH2) (fun hH3=>?_);clear hK K;refine Wl.r 16 (fun K hK=>?_);go_simp
  refine hK.o _ _ (hH3) (fun hH4=>?_);clear hK K;refine Wl.d ?_;have HB2:Hid (Below w.heap.size w w'):=yu hb;clear hb;go_wp2
  go_ret
  exact⟨by rw[HM.o];rfl,HB2.o⟩
 .rw [hw]at HM;clear hw;by_cases h12:x1<x2
  .have q12:decide (x1<x2)=true:=by simpa using h12
   rw[q12]at HM;clear h12;obtain⟨eb,he⟩:∃eb,entsB xs=eb:=⟨_,rfl⟩
   have HE:=qqh he;rw[he]at HM;clear he;go_enter func308,ntmps308
   go_wp2
   refine qZj (S:=fun W=>W.cell? ⟨gt,0,none⟩=some (.func (.func 196) #[] #[.pointer (some ⟨g,0,none⟩)])/\W.cell? ⟨gl,ol+1,none⟩=some (.int .i64 x1)/\W.cell? ⟨gl,ol+2,none⟩=some (.int .i64 x2)) kR (by(simp only[qYo]);exact⟨hv,c1,c2⟩) (fun hHeld=>?_);refine Wl.i [0,1] ?_;iterate 2 refine Wl.t hHeld ?_
   refine Wl.o ?_;refine Wl.r 2 (fun K hK=>?_);go_simp
   refine(yS bndP xs HX.o.2.1 HX.o.2.2.1 HX.o.1 HX.o.2.2.2.1 (by show 4<=20;decide) de).mono ?_;rw[HW.o];rintro e w' ⟨rfl,hb⟩;refine hK.o _ _ (have hU:=uuo (S:=fun _=>False) hb;⟨hU.j4 hHeld.1 id,hU.j4 hHeld.2.1 id,hU.j4 hHeld.2.2 id⟩) (fun hH1=>?_);clear hK K;refine Wl.i [3,4,5,6,7,8,9,10] ?_;iterate 8 refine Wl.t hH1 ?_
   refine Wl.o ?_;refine Wl.r 11 (fun K hK=>?_);go_simp
   refine hK.o _ _ (hH1) (fun hH2=>?_);clear hK K;refine Wl.i [12,13] ?_;iterate 2 refine Wl.t hH2 ?_
   refine Wl.o ?_;refine Wl.r 14 (fun K hK=>?_);go_simp
   refine(Qv (Below.range hb HX.o.1) HX.o.2.2.2.1 HX.o.2.2.2.2.1 HX.o.2.2.2.2.2).mono ?_;rw[HE.o];rintro e w'' ⟨rfl,hb2⟩;refine hK.o _ _ (have hU:=uuo (S:=fun _=>False) hb2;⟨hU.j4 hH2.1 id,hU.j4 hH2.2.1 id,hU.j4 hH2.2.2 id⟩) (fun hH3=>?_);clear hK K;refine Wl.r 15 (fun K hK=>?_);go_simp
   refine hK.o _ _ (hH3) (fun hH4=>?_);clear hK K;refine Wl.r 16 (fun K hK=>?_);go_simp
   refine hK.o _ _ (hH4) (fun hH5=>?_);clear hK K;refine Wl.d ?_;have HB2:Hid (Below w.heap.size w w''):=yu (hb.trans (hb2.mono hb.size));clear hb hb2;go_wp2
   go_ret
   exact⟨by rw[HM.o];cases eb<;>rfl,HB2.o⟩
  .have q12:decide (x1<x2)=false:=by simpa using h12
   rw[q12]at HM;clear h12;go_enter func308,ntmps308
   go_wp2
   refine qZj (S:=fun W=>W.cell? ⟨gt,0,none⟩=some (.func (.func 196) #[] #[.pointer (some ⟨g,0,none⟩)])/\W.cell? ⟨gl,ol+1,none⟩=some (.int .i64 x1)/\W.cell? ⟨gl,ol+2,none⟩=some (.int .i64 x2)) kR (by(simp only[qYo]);exact⟨hv,c1,c2⟩) (fun hHeld=>?_);refine Wl.i [0,1] ?_;iterate 2 refine Wl.t hHeld ?_
   refine Wl.o ?_;refine Wl.r 2 (fun K hK=>?_);go_simp
   refine(yS bndP xs HX.o.2.1 HX.o.2.2.1 HX.o.1 HX.o.2.2.2.1 (by show 4<=20;decide) de).mono ?_;rw[HW.o];rintro e w' ⟨rfl,hb⟩;refine hK.o _ _ (have hU:=uuo (S:=fun _=>False) hb;⟨hU.j4 hHeld.1 id,hU.j4 hHeld.2.1 id,hU.j4 hHeld.2.2 id⟩) (fun hH1=>?_);clear hK K;refine Wl.i [3,4,5,6,7,8,9,10] ?_;iterate 8 refine Wl.t hH1 ?_
   refine Wl.o ?_;refine Wl.r 11 (fun K hK=>?_);go_simp
   refine hK.o _ _ (hH1) (fun hH2=>?_);clear hK K;refine Wl.i [12,13,14] ?_;iterate 3 refine Wl.t hH2 ?_
   refine Wl.o ?_;refine Wl.r 15 (fun K hK=>?_);go_simp
   refine hK.o _ _ (hH2) (fun hH3=>?_);clear hK K;refine Wl.r 16 (fun K hK=>?_);go_simp
   refine hK.o _ _ (hH3) (fun hH4=>?_);clear hK K;refine Wl.d ?_;have HB2:Hid (Below w.heap.size w w'):=yu hb;clear hb;go_wp2
   go_ret
   exact⟨by rw[HM.o];rfl,HB2.o⟩
theorem yi{B:List (Int×Int)}{xs:List Int}(h:withinB B xs=true){i:Nat}(hi:i<B.length)(hx:i<xs.length):B[i].1<=xs[i]/\xs[i]<=B[i].2:=by
 unfold withinB at h;rw[qxw]at h;have:=h (B[i],xs[i]) (by rw[List.mem_iff_getElem];exact⟨i,by simp;omega,oe⟩);simpa[inB]using this
theorem uX{xs:List Int}(hx:xs.length=20)(h:mayP xs=true):(∀x∈xs,0<=x)/\Zt (numL [6,2,2,1,2,2,1,4,2,2,1,4,2,2,1,4,2,2,1,4] xs):=by
 simp only[mayP,qxo]at h;obtain⟨⟨h1,h2⟩,h3⟩:=h;have a0:=yi h1 (i:=0) de oM;have a1:=yi h1 (i:=1) de oM;have a2:=yi h1 (i:=2) de oM;have a3:=yi h1 (i:=3) de oM;simp[bndP]at a0 a1 a2 a3;unfold entsB at h3;rw[qxw]at h3;have hr:∀i (_:i<4),∀j (_:j<4),∃h:4+4*i+j<xs.length,0<=xs[4+4*i+j]/\xs[4+4*i+j]<=bndE[j]!.2:=by
  intro i hi j hj;refine⟨oM,?_⟩;have hrow:=h3 i ox;have hlen:=xU hx hi;have e:(rowI xs i)[j]'oM =xs[4+4*i+j]'oM:=by simp[rowI]
  rw[<-e];unfold entB at hrow;split at hrow
  .have:=yi hrow (i:=j) (by simpa[bndE]using hj) oM;rcases j with _|_|_|_|j
   all_goals first|omega|(simp[bndE]at this⊢;omega)
  .simp at hrow;have h0:(rowI xs i)[j]'oM =0:=by
    simp only[hrow];rcases j with _|_|_|_|j
    all_goals first|omega|rfl
   rw[h0];rcases j with _|_|_|_|j
   all_goals first|omega|(simp[bndE])
 have hb:∀i (h1:i<xs.length) (h2:i<[6,2,2,1,2,2,1,4,2,2,1,4,2,2,1,4,2,2,1,4].length),0<=xs[i]/\xs[i]<256^[6,2,2,1,2,2,1,4,2,2,1,4,2,2,1,4,2,2,1,4][i]:=by
  intro i hi hi2;by_cases hi4:i<4
  .rcases i with _|_|_|_|i
   all_goals first|omega|(simp;omega)
  .obtain ⟨k,j,hk,hj,rfl⟩:∃k j,k<4/\j<4/\i=4+4*k+j:=⟨(i-4)/4,(i-4)%4,oM,oM,oM⟩
   obtain⟨hh,r1,r2⟩:=hr k hk j hj;refine⟨r1,?_⟩;have hk':k=0\/k=1\/k=2\/k=3:=oM;have hj':j=0\/j=1\/j=2\/j=3:=oM;rcases hk' with rfl|rfl|rfl|rfl<;>rcases hj' with rfl|rfl|rfl|rfl<;>simp[bndE]at r2⊢<;>omega
 refine⟨fun x hx2=>?_,uU jX de de hb⟩;obtain⟨i,hi,rfl⟩:=qza hx2;exact(hb i hi oh).1
theorem wK{P:Prop}(h:P:=by
 have hmf:=qqf;go_enter q1f,q2f
 go_wp2_with fail
 refine(xu).mono ?_;rintro e w1 ⟨rfl,rfl⟩;go_wp2
 obtain⟨h1,h2,h3,h4,h5,h6,h7⟩:=ur w (.cells #[.int .i64 n3f,.slice (some ⟨w.heap.size+1+1+1+1,0,none⟩) Qa Qa,.func (.func n5f) #[] #[],.func (.func n6f) #[] #[.pointer (some ⟨w.heap.size+1+1+1,0,none⟩)],.func (.func n7f) #[] #[]] n8f)
  (.cells (bndC d9f).toArray 219) (.cells #[.slice (some ⟨w.heap.size+1,0,none⟩) Jo Jo] 321) (.cells #[.func (.func 196) #[] #[.pointer (some ⟨w.heap.size+1+1,0,none⟩)]] 134) (.cells (ints (natsI d11f)).toArray 3)
 refine qYw (zI rfl _ _ w.heap.size 0 [.int .i64 n3f,.slice (some ⟨w.heap.size+1+1+1+1,0,none⟩) Qa Qa,.func (.func n5f) #[] #[],.func (.func n6f) #[] #[.pointer (some ⟨w.heap.size+1+1+1,0,none⟩)],.func (.func n7f) #[] #[]] _ rfl (zh h1) zbS rfl zbT) rfl
  ⟨w.heap.size+1+1+1+1,w.heap.size+1+1+1,rfl,⟨zh h5,_,za h4 0,w.heap.size+1+1,w.heap.size+1,Jo,rfl,za h3 0,zh h2⟩,Upd.below h7⟩):P:=h
theorem uv{P:Prop}(h:P:=by
 obtain⟨hs,v,hv,hB⟩:=hF;have hcz:(prog.info? n14f).map (·.size)=some cs.length:=by rw[hcs];exact AA
 have htell':∀W,Below w.heap.size w W->Calls prog n5f (#[.agg cs.toArray]++ #[]) W (zS W Qa xs):=fun W _=>htell W;have hmay:∀W gl cc,Qa<=cc->cc<=maxLen->Below w.heap.size w W->W.rangeAt gl 0 (ints xs)->Calls prog n6f (#[.slice (some ⟨gl,0,none⟩) Qa cc]++ #[.pointer (some ⟨gt,0,none⟩)]) W fun e W'=>e=.returned (.bool (d16f xs))/\Below W.heap.size W W':=fun W gl cc hc hc2 hW hr=>
  zbU xs hxl hc hc2 ((uuo (S:=fun _=>False) hW).j4 hv id) (hB.below hW) hr
 cases hm:d16f xs with
 |false=>
  rw[hm]at hmay;exact(zbV (w:=w) n3f xs Qa gs Qa n5f n6f #[] #[.pointer (some ⟨gt,0,none⟩)] (.func (.func n7f) #[] #[]) rfl cs hcz (fun _ _=>rfl) (fun _ _=>rfl) htell' hmay).mono
   (fun e w' ⟨he,hb⟩=>⟨.inr ⟨hm,he⟩,hb⟩)
 |true=>
  rw[hm]at hmay;obtain⟨h0,hfit⟩:=zbW hxl hm;have e:numsL (numL d11f xs)=xs:=uT jQ h0;rw[<-e]at htell' hmay;exact(zbX (w:=w) n3f de (numL d11f xs) hfit Qa (by rw[qI jQ];rfl) de gs Qa n5f n6f #[] #[.pointer (some ⟨gt,0,none⟩)] (.func (.func n7f) #[] #[]) rfl cs hcz (by rw[YN jQ];exact hs) hN (fun _ _=>rfl) (fun _ _=>rfl) htell' hmay).mono
   (fun e w' ⟨he,hb⟩=>⟨.inl ⟨hm,he⟩,hb⟩)):P:=h
theorem uw{P:Prop}(h:P:=by
 have HN:=Y2 hN htell;have hcz:(prog.info? n14f).map (·.size)=some cs.length:=by rw[hcs];exact AA
 have HC:=qqh hcz;have hr:((w.alloc (.cells cs.toArray n14f)).alloc (.cells (bkC zB).toArray 54)).rangeAt w.heap.size 0 cs:=qYp (zh (zc w _ rfl)) _;clear hN htell hcz;go_enter zbY,zbZ
 go_wp2_with fail
 change Code.wp _ _ _ _ ((w.alloc (.cells cs.toArray n14f)).alloc (.cells (bkC zB).toArray 54))
 have hg:((w.alloc (.cells cs.toArray n14f)).alloc (.cells (bkC zB).toArray 54)).heap[w.heap.size+1]?=some (.cells (bkC zB).toArray 54):=zc _ _ oe;have hu:Upd (fun _=>False) w ((w.alloc (.cells cs.toArray n14f)).alloc (.cells (bkC zB).toArray 54)):=((uur _ w).alloc _).alloc _;generalize (w.alloc (.cells cs.toArray n14f)).alloc (.cells (bkC zB).toArray 54)=w2 at*;have hb2:Below w.heap.size w w2:=Upd.below hu;refine qZj (S:=fun W=>W.rangeAt w.heap.size 0 cs) kR oE (fun hHeld=>?_);refine Wl.l 1 (fun w h=>h) zca HC.o hHeld ?_;refine Wl.r 0 (fun K hK=>?_);go_simp
 refine(zcb _).mono ?_;rintro e w3 ⟨gs,gt,rfl,hF,hb3⟩;have hb3':Below w2.heap.size w2 w3:=yu hb3;refine hK.o _ _ (Below.range hb3 hHeld) (fun hHeld2=>?_);clear hK K;refine Wl.r 2 (fun K hK=>?_);go_simp
 refine(zcc hF ((HN.o.1.keep hu id).below hb3') cs hcs xs hxl HN.o.2).mono ?_;rintro e w4 ⟨he,hb4⟩;have hb4':Below w2.heap.size w2 w4:=hb3'.trans (hb4.mono hb3'.size);have hg4:=(hb4'.block _ (zf hg)).trans hg;have hth:w4.there (w.heap.size+1) 0 64:=fun j hj=>by
  rw[za hg4,zg hg4];exact⟨by rw[qYe,qxe oT];rfl,rfl⟩
 obtain⟨y,cd,hy,hres,rfl⟩:∃(y:Bk) (cd:Int),y.length=64/\((d16f xs=true/\y=zcd xs/\cd=0)\/(d16f xs=false/\y=zB/\cd=10))/\e=.returned (.tuple #[.agg (bkC y).toArray,.int .i64 cd]):=by
  rcases he with⟨hm,rfl⟩|⟨hm,rfl⟩
  .exact ⟨_,0,zce hxl,.inl ⟨hm,rfl,rfl⟩,rfl⟩
  .exact ⟨_,10,zK,.inr ⟨hm,rfl,rfl⟩,rfl⟩
 have HR:=Y2 hy hres;clear he hy hres;have hst:w4.there (w.heap.size+1) 0 (bkC y).toArray.size:=by rw[zp _ HR.o.1];exact hth
 have hst2:w4.there (w.heap.size+1) 0 (bkC y).length:=by rw[zo,HR.o.1];exact hth
 have hsz2:(prog.info? 54).map (·.size)=some (bkC y).toArray.size:=by rw[zp _ HR.o.1];exact zP
 refine hK.o _ _ (Below.range hb4 hHeld2) (fun hHeld3=>?_);clear hK K;refine Wl.i [3,4] ?_;iterate 2 refine Wl.t hHeld3 ?_
 refine Wl.o ?_;have hU5:Below w.heap.size w (w4.setCells (w.heap.size+1) 0 (bkC y)):=zk (hb2.trans (hb4'.mono hu.size)) (zq w4 (w.heap.size+1) 0 _) (qXv _) (fun k e=>oM);refine Wl.r 5 (fun K hK=>?_);rw[if_pos oD];refine qZk _ _ _ rfl _ _ (List.toArray _) rfl rfl (hst) (hsz2) (qYu (zx _)) ?_;simp only[Act.put,qXi];refine hK.o _ _ ((zq w4 (w.heap.size+1) 0 (bkC y)).range hHeld3 oM) (fun hHeld4=>?_);clear hK K;refine Wl.r 6 (fun K hK=>?_);go_simp
 refine hK.o _ _ (hHeld4) (fun _=>?_);clear hK K;refine Wl.d ?_;have HE:=Y2 hU5 hst2;clear hst hst2 hsz2 hU5 hth hg4 hb4 hb4' hb3 hb3' hHeld hHeld2 hHeld3 hHeld4 hF hr hg hu hb2;go_wp2
 refine qYw (zt rfl _ _ (w.heap.size+1) 0 (bkC y) _ rfl (qYr _ _ _ _ HE.o.2) underlying54 rfl (zw _ HR.o.1)) rfl ⟨?_,HE.o.1⟩;rcases HR.o.2 with⟨hm,rfl,rfl⟩|⟨hm,rfl,rfl⟩
 .exact .inl ⟨hm,rfl⟩
 .exact .inr ⟨hm,rfl⟩):P:=h
def UO:List Nat:=[6,6,1,2,2,1,4]
def Wp(gs gt:Nat):Value:=.agg #[.int .i64 2,.slice (some ⟨gs,0,none⟩) 7 7,.func (.func 250) #[] #[],.func (.func 252) #[] #[.pointer (some ⟨gt,0,none⟩)],.func (.func 253) #[] #[]]
def Qw(w:World)(gs gt:Nat):Prop:=w.rangeAt gs 0 (ints (natsI UO))/\∃v,w.cell? ⟨gt,0,none⟩=some v/\Bnd w v bndR
theorem VE:(prog.info? 296).map (·.size)=some 5:=kR
theorem infoThR:(prog.info? 101).map (·.size)=some 7:=kR
namespace fFormR2
theorem q1f:type_of% @func178:= @func178
theorem q2f:type_of% @ntmps178:= @ntmps178
abbrev n3f:Nat:=2
abbrev Qa:Nat:=7
abbrev n5f:Nat:=250
abbrev n6f:Nat:=252
abbrev n7f:Nat:=253
abbrev n8f:Nat:=296
abbrev d9f:= @bndR
abbrev Jo:Nat:=7
abbrev d11f:= @UO
theorem zbS:type_of% @underlying296:= @underlying296
theorem zbT:type_of% @VE:= @VE
end fFormR2
open fFormR2 in
theorem xI(w:World):Calls prog 178 #[] w fun e w'=>∃gs gt,e=.returned (Wp gs gt)/\Qw w' gs gt/\Below w.heap.size w w':=wK
def sectR(xs:List Int):Bk:=sectB 2 (numL UO xs)
theorem uY{xs:List Int}(h:xs.length=7):(sectR xs).length=64:=vt jG
def YS(w:World)(xs:List Int)(e:Ending)(w':World):Prop:=
 ((mayR xs=true/\e=.returned (.tuple #[.agg (bkC (sectR xs)).toArray,.int .i64 0]))\/(mayR xs=false/\e=.returned (.tuple #[.agg (bkC zB).toArray,.int .i64 10])))/\Below w.heap.size w w'
namespace fFormR2
abbrev n14f:Nat:=101
theorem AA:type_of% @infoThR:= @infoThR
abbrev d16f:= @mayR
theorem zbU:type_of% @qL:= @qL
theorem zbV:type_of% @VB:= @VB
theorem zbW:type_of% @uV:= @uV
theorem zbX:type_of% @YP:= @YP
end fFormR2
open fFormR2 in
theorem YT{w:World}{gs gt:Nat}(hF:Qw w gs gt)(hN:Nib w)(cs:List Value)(hcs:cs.length=7)(xs:List Int)(hxl:xs.length=7)
  (htell:∀W,Calls prog 250 #[.agg cs.toArray] W (zS W 7 xs)):
  Calls prog 326 #[Wp gs gt,.agg cs.toArray] w (YS w xs):=uv
namespace fFormR2
theorem zbY:type_of% @func304:= @func304
theorem zbZ:type_of% @ntmps304:= @ntmps304
theorem zca:type_of% @underlying101:= @underlying101
theorem zcb:type_of% @xI:= @xI
theorem zcc:type_of% @YT:= @YT
abbrev zcd:= @sectR
theorem zce:type_of% @uY:= @uY
end fFormR2
open fFormR2 in
theorem Qx{w:World}(hN:Nib w)(cs:List Value)(hcs:cs.length=7)(xs:List Int)(hxl:xs.length=7)
  (htell:∀W,Calls prog 250 #[.agg cs.toArray] W (zS W 7 xs)):
  Calls prog 304 #[.agg cs.toArray] w (YS w xs):=uw
def VF:List Nat:=[6,2,2,1,2,2,1,4,2,2,1,4,2,2,1,4,2,2,1,4]
def Wq(gs gt:Nat):Value:=.agg #[.int .i64 3,.slice (some ⟨gs,0,none⟩) 20 20,.func (.func 307) #[] #[],.func (.func 308) #[] #[.pointer (some ⟨gt,0,none⟩)],.func (.func 310) #[] #[]]
def Qy(w:World)(gs gt:Nat):Prop:=w.rangeAt gs 0 (ints (natsI VF))/\∃v,w.cell? ⟨gt,0,none⟩=some v/\Bnd w v bndP
theorem VG:(prog.info? 380).map (·.size)=some 5:=kR
theorem wv:(prog.info? 280).map (·.size)=some 20:=kR
namespace fFormP2
theorem q1f:type_of% @func246:= @func246
theorem q2f:type_of% @ntmps246:= @ntmps246
abbrev n3f:Nat:=3
abbrev Qa:Nat:=20
abbrev n5f:Nat:=307
abbrev n6f:Nat:=308
abbrev n7f:Nat:=310
abbrev n8f:Nat:=380
abbrev d9f:= @bndP
abbrev Jo:Nat:=4
abbrev d11f:= @VF
theorem zbS:type_of% @underlying380:= @underlying380
theorem zbT:type_of% @VG:= @VG
end fFormP2
open fFormP2 in
theorem vu(w:World):Calls prog 246 #[] w fun e w'=>∃gs gt,e=.returned (Wq gs gt)/\Qy w' gs gt/\Below w.heap.size w w':=wK
def sectP(xs:List Int):Bk:=sectB 3 (numL VF xs)
theorem xV{xs:List Int}(h:xs.length=20):(sectP xs).length=64:=vt jG
def YU(w:World)(xs:List Int)(e:Ending)(w':World):Prop:=
 ((mayP xs=true/\e=.returned (.tuple #[.agg (bkC (sectP xs)).toArray,.int .i64 0]))\/(mayP xs=false/\e=.returned (.tuple #[.agg (bkC zB).toArray,.int .i64 10])))/\Below w.heap.size w w'
namespace fFormP2
abbrev n14f:Nat:=280
theorem AA:type_of% @wv:= @wv
abbrev d16f:= @mayP
theorem zbU:type_of% @qM:= @qM
theorem zbV:type_of% @VC:= @VC
theorem zbW:type_of% @uX:= @uX
theorem zbX:type_of% @YQ:= @YQ
end fFormP2
open fFormP2 in
theorem YV{w:World}{gs gt:Nat}(hF:Qy w gs gt)(hN:Nib w)(cs:List Value)(hcs:cs.length=20)(xs:List Int)(hxl:xs.length=20)
  (htell:∀W,Calls prog 307 #[.agg cs.toArray] W (zS W 20 xs)):
  Calls prog 316 #[Wq gs gt,.agg cs.toArray] w (YU w xs):=uv
namespace fFormP2
theorem zbY:type_of% @func268:= @func268
theorem zbZ:type_of% @ntmps268:= @ntmps268
theorem zca:type_of% @underlying280:= @underlying280
theorem zcb:type_of% @vu:= @vu
theorem zcc:type_of% @YV:= @YV
abbrev zcd:= @sectP
theorem zce:type_of% @xV:= @xV
end fFormP2
open fFormP2 in
theorem YW{w:World}(hN:Nib w)(cs:List Value)(hcs:cs.length=20)(xs:List Int)(hxl:xs.length=20)
  (htell:∀W,Calls prog 307 #[.agg cs.toArray] W (zS W 20 xs)):
  Calls prog 268 #[.agg cs.toArray] w (YU w xs):=uw
end Go.Proofs.YtfhfbpmlnjdfoaaGreatDoor
