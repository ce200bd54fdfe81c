/- Things as sect -/
import Derived.Test.YtbnpkobbnjihjaaGreatDoorG05
set_option maxRecDepth 100000
set_option maxHeartbeats 2000000
namespace Go.Proofs.YtbnpkobbnjihjaaGreatDoor
open Go Go.RowKit Tryz
variable{w:World}
theorem wH{P:Prop}(h:P:=by
 have H:=Y7 hs hN htell hmay hk hl hm;have HC:=qqh hcs;clear hs hN htell hmay hk hl hm hcs;have hr:((w.alloc (.cells #[.int .i64 (k:Int),.slice (some ⟨gs,0,none⟩) m cl,.func (.func ft) #[] ct,.func (.func fm) #[] cm,bv] AC)).alloc (.cells cs.toArray AD)).rangeAt (w.heap.size+1) 0 cs:=zf (zc _ _ oe);go_enter q3c,q4c
 go_wp2_with (first
  |(refine qZa rfl _ _ rfl _ _ rfl _ _ (qYj hr _) q5c rfl HC.o ?_)
  |fail)
 show Calls _ _ _ (((w.alloc (.cells #[.int .i64 (k:Int),.slice (some ⟨gs,0,none⟩) m cl,.func (.func ft) #[] ct,.func (.func fm) #[] cm,bv] AC)).alloc (.cells cs.toArray AD)).alloc (.cells (bkC zB).toArray 54)) _;obtain⟨h1,h2,h3,h4,h5⟩:=yU w (.cells #[.int .i64 (k:Int),.slice (some ⟨gs,0,none⟩) m cl,.func (.func ft) #[] ct,.func (.func fm) #[] cm,bv] AC) (.cells cs.toArray AD) (.cells (bkC zB).toArray 54);clear hr;generalize ((w.alloc (.cells #[.int .i64 (k:Int),.slice (some ⟨gs,0,none⟩) m cl,.func (.func ft) #[] ct,.func (.func fm) #[] cm,bv] AC)).alloc (.cells cs.toArray AD)).alloc (.cells (bkC zB).toArray 54)=w3 at*;refine(H.o.2.2.1 w3 (Upd.below h5)).mono ?_;rintro e w4 ⟨gl,c4,rfl,hc4,hc5,hr4,hb4⟩;have hu4:=qqb hb4;have f1:=(hu4.block _ (zd h1) id).trans h1;have f3:=(hu4.block _ (zd h3) id).trans h3;have m3:w4.cell? ⟨w.heap.size,3,none⟩=some (.func (.func fm) #[] cm):=za f1 3;have H4:=Y5 hr4 (h5.trans hu4) f1 f3 h4;clear h1 h2 h3 h4 h5 hr4 hb4 hu4 f1 f3;go_wp2_with fail
 refine(H.o.2.2.2.1 w4 gl c4 hc4 hc5 (Upd.below H4.o.2.1) H4.o.1).mono ?_;rintro e w5 ⟨rfl,hb5⟩;have hu5:=qqb hb5;obtain⟨r4,u4,f1,f3,z4⟩:=H4.o;have r5:=hu5.range r4 id;have g1:=(hu5.block _ (zd f1) id).trans f1;have g3:=(hu5.block _ (zd f3) id).trans f3;have m0:w5.cell? ⟨w.heap.size,0,none⟩=some (.int .i64 (k:Int)):=za g1 0;have z5:w.heap.size+3<=w5.heap.size:=by have h1:=zd g3;have h2:=hu5.size;have h3:=u4.size;have h4:=zd f3;have h5:=z4;have h6:=H4.o.2.2.2.2;omega
 have H5:=Y4 r5 (u4.trans hu5) g1 g3;clear r4 u4 f1 f3 z4 r5 g1 g3 hu5 hb5 m3;go_wp2_with fail
 generalize hM:w.heap.size=M at*;have HM:=qqh hM;clear hM;refine qZd (S:=fun W=>W.cell? ⟨M,0,none⟩=some (.int .i64 (k:Int))) kR (by rw[qYi];exact m0) (fun hHeld=>?_);refine qYz (i:=1) (v:=?_) rfl kR kR kR (fun _ _ _ h=>h) (Or.inl ⟨by rfl,?_⟩) hHeld ?_
 rotate_left
 .intro W hSw;(try dsimp only at hSw);(try go_split_ands);go_simp;(try with_reducible rfl)
 simp only[Act.put,qXd];refine qYz (i:=2) (v:=?_) rfl kR kR kR (fun _ _ _ h=>h) (Or.inl ⟨by rfl,?_⟩) hHeld ?_
 rotate_left
 .intro W hSw;(try dsimp only at hSw);(try go_split_ands);go_simp;(try with_reducible rfl)
 simp only[Act.put];refine Wl.r 0 (fun K hK=>?_);go_simp
 refine(RV _).mono ?_;rintro e w6 ⟨g,rfl,hW,hge,hB⟩;have hge':w5.heap.size<=g:=hge;refine hK.o _ _ ((uuo (S:=fun _=>False) hB).jU hHeld id) (fun hHeld2=>?_);clear hK K;refine Wl.r 3 (fun K hK=>?_);go_simp
 refine(AI hW k 1 de de oZ de).mono ?_;rintro e w7 ⟨rfl,hW2,hU⟩;refine hK.o _ _ (hU.jU hHeld2 oM) (fun hHeld3=>?_);clear hK K;refine Wl.r 4 (fun K hK=>?_);go_simp
 refine hK.o _ _ (hHeld3) (fun _=>?_);clear hK K;refine Wl.d ?_;obtain⟨r5,u5,g1,g3⟩:=H5.o;obtain⟨hs,hN,-,-,hk,hl,hm⟩:=H.o;have u57:Upd (fun j=>j=g) w5 w7:=((uuo (S:=fun _=>False) (yj hB)).mono fE).trans hU;have glt:gl<w5.heap.size\/m=0:=by
  rcases qXn m with h|h
  .exact .inr h
  .exact .inl (qYh w5 _ (r5 0 _ (vF oM)))
 have nM:w.heap.size=M:=HM.o;have gslt:gs<w.heap.size\/m=0:=by
  rcases qXn m with h|h
  .exact .inr h
  .exact .inl (qYh w _ (hs 0 _ (wB oM)))
 have ws5:=u5.size;have m1:w7.cell? ⟨M,1,none⟩=some (.slice (some ⟨gs,0,none⟩) m cl):=u57.jU (za g1 1) oM;have g3':=(u57.block (M+1+1) (zd g3) oM).trans g3;have hN7:Nib w7:=((hN.keep u5 id).keep u57 (by have:=hN.lt;omega))
 have hlow:Below M w w7:=zj (by rw[<-nM];exact Upd.below u5) u57 (by rw[<-nM];exact qXp _) (fun k e=>oM);have hr7:∀i (hi:i<l.length) W,Upd (fun j=>j=g) w7 W->W.cell? ⟨gl,0+i,none⟩=some (.int .i64 (l[i].1:Int)):=fun i hi W hW=>hW.jU (u57.jU (r5 i _ (vF hi)) oM) oM;have hs7:∀i (hi:i<l.length) W,Upd (fun j=>j=g) w7 W->W.cell? ⟨gs,0+i,none⟩=some (.int .i64 (l[i].2:Int)):=fun i hi W hW=>hW.jU (u57.jU ((u5.range hs id) i _ (wB hi)) oM) oM;have H7:=Y9 hr7 hs7 m1 g3' hN7 hlow hl hm hW2;have hgeM:M<=g:=oM;have hgM:¬M=g:=oM;have hgM2:¬M+1+1=g:=oM;have hMw:=zd g3'
 rename_i hx
 clear hx hHeld hHeld2 hHeld3 hW hge hB hU hW2 hN hs hk hl hm r5 u5 g1 g3 u57 glt gslt nM ws5 m1 g3' hN7 hlow hr7 hs7 m0;go_wp2
 go_loopw[26] (fun s26 wr=>∃i:Nat,i<=m/\s26=.int .i64 i/\WrAt wr g (lowB k 1++encB (l.take i))/\Upd (fun j=>j=g) w7 wr) (fun s26 _=>m-(intOf s26).toNat)
 case atStart=>exact⟨0,qXz _,rfl,by simpa[encB]using H7.o.2.2.2.2.2.2.2.2,uur _ _⟩
 case round=>
  obtain⟨i,hi,rfl,hW,hu⟩:=hrel;by_cases hlt:i<m
  .obtain ⟨hr7,hs7,m1,g3',hN7,hlow,hl,hm,-⟩:=H7.o;have hil:i<l.length:=oM;have x1:=hr7 i hil wr hu;have x2:=hs7 i hil wr hu;have x3:=hu.jU m1 hgM;rw[qXy]at x1 x2;have hfit:=hl.1 l[i] (qyu hil);have hsz:=qR l hil;have hts:Hid (encB (l.take (i+1))=encB (l.take i)++lowB l[i].1 l[i].2):=by show _=_;rw[qXk hil,sS]
   have hlen:(lowB k 1++encB (l.take i)).length+l[i].2<=60:=by
    rw[qyy,zY,wY];have:=hl.2;omega
   have b1:(0:Int)<=(i:Int)/\(i:Int)<(m:Int):=oM;have HX:=Y4 hW hu hfit hlen;clear hr7 hs7 m1 g3' hN7 hlow hl hm hW hu hfit hsz hlen;obtain⟨b1,b2⟩:=b1;generalize l[i]=p at*;go_wp2_with fail
   refine(AI HX.o.1 p.1 p.2 HX.o.2.2.1.2.1 HX.o.2.2.1.2.2 HX.o.2.2.1.1 HX.o.2.2.2).mono ?_;rintro e w8 ⟨rfl,hW8,hU8⟩;have HZ:=Y2 hW8 hU8;clear hW8 hU8;go_wp2
   go_roundw
   case rel=>exact⟨i+1,oM,by go_num,by rw[hts.out,<-qxv];exact HZ.o.1,HX.o.2.1.trans HZ.o.2⟩
   case measure=>simp[intOf];omega
  .obtain rfl:i=m:=oM;obtain⟨hr7,hs7,m1,g3',hN7,hlow,hl,hm,-⟩:=H7.o;have hN8:=hN7.keep hu (by have:=(H.o.2.1).lt;have:=HM.o;omega);rw[qXj oM]at hW;have hg3:=(hu.block (M+1+1) (zd g3') hgM2).trans g3';have hlen:Hid ((sectB k l).length=64):=yT hl.2;have HX:=Y6 hW hN8 hu hg3 hlow hl;have hus:=hu.size;clear hr7 hs7 m1 g3' hN7 hlow hl hm hW hu hN8 hg3;go_wp2_with fail
   refine(zbV HX.o.1 HX.o.2.1).mono ?_;rintro e w9 ⟨rfl,hb9⟩;have hg9:=(hb9.block (M+1+1) (zd HX.o.2.2.2.1)).trans HX.o.2.2.2.1;have hth:w9.there (M+1+1) 0 64:=fun j hj=>by
    rw[za hg9,zg hg9];exact⟨by rw[qXy,qxe oD];rfl,rfl⟩
   have hbl:Hid (Below M w w9):=(zj HX.o.2.2.2.2.1 HX.o.2.2.1 oK (fun k e=>oM)).trans (hb9.mono oM);have hsl:=hlen.out;have hst:w9.there (M+1+1) 0 (bkC (sectB k l)).toArray.size:=by rw[zm _ hsl];exact hth
   have hst2:w9.there (M+1+1) 0 (bkC (sectB k l)).length:=by rw[zn,hsl];exact hth
   have hsz2:(prog.info? 54).map (·.size)=some (bkC (sectB k l)).toArray.size:=by rw[zm _ hsl];exact zI
   have HST:=Y4 hst hsz2 hst2 hsl;clear hst hsz2 hst2 hsl hg9 hth hb9 hlen;rw[show sealB (padB (lowB k 1++encB l))=sectB k l from rfl];generalize hsb:sectB k l=sb at*;have Hsb:=qqh hsb;clear hsb;go_wp2_with (first
    |(refine qZc rfl _ _ _ rfl _ _ (bkC sb).toArray rfl rfl HST.o.1 HST.o.2.1 (qYo (zu _)) ?_)
    |fail)
   refine qYq (zp rfl _ _ (M+1+1) 0 (bkC sb) _ rfl (qYl _ _ _ _ HST.o.2.2.1) underlying54 rfl (zv _ HST.o.2.2.2)) rfl
     ⟨by rw[Hsb.out];rfl,?_⟩
   rw[HM.o];exact zj hbl.out (zo w9 (M+1+1) 0 _) oK (fun k e=>oM)):P:=h
theorem ve{P:Prop}(h:P:=by
 have H:=Y2 htell hmay;have HC:=qqh hcs;clear htell hmay hcs;have hr:((w.alloc (.cells #[.int .i64 (k:Int),.slice (some ⟨gs,0,none⟩) m cl,.func (.func ft) #[] ct,.func (.func fm) #[] cm,bv] AC)).alloc (.cells cs.toArray AD)).rangeAt (w.heap.size+1) 0 cs:=zf (zc _ _ oe);go_enter q3c,q4c
 go_wp2_with (first
  |(refine qZa rfl _ _ rfl _ _ rfl _ _ (qYj hr _) q5c rfl HC.o ?_)
  |fail)
 show Calls _ _ _ (((w.alloc (.cells #[.int .i64 (k:Int),.slice (some ⟨gs,0,none⟩) m cl,.func (.func ft) #[] ct,.func (.func fm) #[] cm,bv] AC)).alloc (.cells cs.toArray AD)).alloc (.cells (bkC zB).toArray 54)) _;obtain⟨h1,h2,h3,h4,h5⟩:=yU w (.cells #[.int .i64 (k:Int),.slice (some ⟨gs,0,none⟩) m cl,.func (.func ft) #[] ct,.func (.func fm) #[] cm,bv] AC) (.cells cs.toArray AD) (.cells (bkC zB).toArray 54);clear hr;generalize ((w.alloc (.cells #[.int .i64 (k:Int),.slice (some ⟨gs,0,none⟩) m cl,.func (.func ft) #[] ct,.func (.func fm) #[] cm,bv] AC)).alloc (.cells cs.toArray AD)).alloc (.cells (bkC zB).toArray 54)=w3 at*;refine(H.o.1 w3 (Upd.below h5)).mono ?_;rintro e w4 ⟨gl,c4,rfl,hc4,hc5,hr4,hb4⟩;have hu4:=qqb hb4;have f1:=(hu4.block _ (zd h1) id).trans h1;have f3:=(hu4.block _ (zd h3) id).trans h3;have m3:w4.cell? ⟨w.heap.size,3,none⟩=some (.func (.func fm) #[] cm):=za f1 3;have H4:=Y5 hr4 (h5.trans hu4) f1 f3 h4;clear h1 h2 h3 h4 h5 hr4 hb4 hu4 f1 f3;go_wp2_with fail
 refine(H.o.2 w4 gl c4 hc4 hc5 (Upd.below H4.o.2.1) H4.o.1).mono ?_;rintro e w5 ⟨rfl,hb5⟩;have hu5:=qqb hb5;obtain⟨r4,u4,f1,f3,z4⟩:=H4.o;have g3:=(hu5.block _ (zd f3) id).trans f3;have hth:w5.there (w.heap.size+1+1) 0 64:=fun j hj=>by
  rw[za g3,zg g3];exact⟨by rw[qXy,qxe oD];rfl,rfl⟩
 obtain⟨z,Hz⟩:∃z:Bk,Hid (z=zB):=⟨zB,rfl⟩
 have hst:w5.there (w.heap.size+1+1) 0 (bkC z).toArray.size:=by rw[Hz.out,zm _ zG];exact hth
 have hst2:w5.there (w.heap.size+1+1) 0 (bkC z).length:=by rw[Hz.out,zn,zG];exact hth
 have hsz2:(prog.info? 54).map (·.size)=some (bkC z).toArray.size:=by rw[Hz.out,zm _ zG];exact zI
 have HST:=Y3 hst hsz2 hst2;have HU:=qqh (u4.trans hu5);clear r4 u4 f1 f3 z4 hst hst2 hsz2 hth hu5 hb5 g3 m3;go_wp2_with (first
   |(refine qZc rfl _ _ _ rfl _ _ (bkC z).toArray rfl (by rw[Hz.out];rfl) HST.o.1 HST.o.2.1 (qYo (zu _)) ?_)
   |fail)
 exact qYq (zp rfl _ _ (w.heap.size+1+1) 0 (bkC z) _ rfl (qYl _ _ _ _ HST.o.2.2) underlying54 rfl (by rw[Hz.out];exact zv zB zG)) rfl
  ⟨by rw[Hz.out];rfl,zj (Upd.below HU.o) (zo w5 (w.heap.size+1+1) 0 _) (qXp _) (fun k e=>oM)⟩):P:=h
namespace fPutR
abbrev AC:Nat:=382
abbrev AD:Nat:=273
theorem q3c:type_of% @func420:= @func420
theorem q4c:type_of% @ntmps420:= @ntmps420
theorem q5c:type_of% @underlying273:= @underlying273
end fPutR
open fPutR in
theorem Xp{w:World}(k:Nat)(hk:k<256)(l:List (Nat×Nat))(hl:qS l)(m:Nat)(hm:l.length=m)(s:m<=100)(gs cl:Nat)(ft fm:Nat)(ct cm:Array Value)(bv:Value)(_hbv:bv.oneCell'=true)(cs:List Value)
  (hcs:(prog.info? 273).map (·.size)=some cs.length) (hs:w.rangeAt gs 0 (ints (wy l))) (hN:Nib w)
  (A:∀b w,(callFunc ft b).run prog w=.ok (.enter ft b) w) (D:∀b w,(callFunc fm b).run prog w=.ok (.enter fm b) w)
  (htell:∀W,Below w.heap.size w W->Calls prog ft (#[.agg cs.toArray]++ct) W (zS W m (numsL l)))
  (hmay:∀W gl c,m<=c->c<=maxLen->Below w.heap.size w W->W.rangeAt gl 0 (ints (numsL l))->Calls prog fm (#[.slice (some ⟨gl,0,none⟩) m c]++cm) W fun e n=>e=.returned (.bool true)/\Below W.heap.size W n):
  Calls prog 420 #[.agg #[.int .i64 (k:Int),.slice (some ⟨gs,0,none⟩) m cl,.func (.func ft) #[] ct,.func (.func fm) #[] cm,bv],.agg cs.toArray] w
   fun e q=>e=.returned (.tuple #[.agg (bkC (sectB k l)).toArray,.int .i64 0])/\Below w.heap.size w q:=wH
open fPutR in
theorem UM{w:World}(k:Nat)(xs:List Int)(m:Nat)(gs cl:Nat)(ft fm:Nat)(ct cm:Array Value)(bv:Value)(_hbv:bv.oneCell'=true)(cs:List Value)
  (hcs:(prog.info? 273).map (·.size)=some cs.length)
  (s:∀n w,(callFunc ft n).run prog w=.ok (.enter ft n) w) (v:∀n w,(callFunc fm n).run prog w=.ok (.enter fm n) w)
  (htell:∀b,Below w.heap.size w b->Calls prog ft (#[.agg cs.toArray]++ct) b (zS b m xs))
  (hmay:∀b gl c,m<=c->c<=maxLen->Below w.heap.size w b->b.rangeAt gl 0 (ints xs)->Calls prog fm (#[.slice (some ⟨gl,0,none⟩) m c]++cm) b fun e p=>e=.returned (.bool false)/\Below b.heap.size b p):
  Calls prog 420 #[.agg #[.int .i64 (k:Int),.slice (some ⟨gs,0,none⟩) m cl,.func (.func ft) #[] ct,.func (.func fm) #[] cm,bv],.agg cs.toArray] w
   fun e q=>e=.returned (.tuple #[bkV zB,.int .i64 10])/\Below w.heap.size w q:=ve
namespace fPutS
abbrev AC:Nat:=117
abbrev AD:Nat:=38
theorem q3c:type_of% @func53:= @func53
theorem q4c:type_of% @ntmps53:= @ntmps53
theorem q5c:type_of% @underlying38:= @underlying38
end fPutS
open fPutS in
theorem Sy(k:Nat)(hk:k<256)(l:List (Nat×Nat))(hl:qS l)(m:Nat)(hm:l.length=m)(s:m<=100)(gs cl:Nat)(ft fm:Nat)(ct cm:Array Value)(bv:Value)(_hbv:bv.oneCell'=true)(cs:List Value)
  (hcs:(prog.info? 38).map (·.size)=some cs.length) (hs:w.rangeAt gs 0 (ints (wy l))) (hN:Nib w)
  (A:∀b w,(callFunc ft b).run prog w=.ok (.enter ft b) w) (D:∀b w,(callFunc fm b).run prog w=.ok (.enter fm b) w)
  (htell:∀W,Below w.heap.size w W->Calls prog ft (#[.agg cs.toArray]++ct) W (zS W m (numsL l)))
  (hmay:∀W gl c,m<=c->c<=maxLen->Below w.heap.size w W->W.rangeAt gl 0 (ints (numsL l))->Calls prog fm (#[.slice (some ⟨gl,0,none⟩) m c]++cm) W fun e n=>e=.returned (.bool true)/\Below W.heap.size W n):
  Calls prog 53 #[.agg #[.int .i64 (k:Int),.slice (some ⟨gs,0,none⟩) m cl,.func (.func ft) #[] ct,.func (.func fm) #[] cm,bv],.agg cs.toArray] w
   fun e q=>e=.returned (.tuple #[.agg (bkC (sectB k l)).toArray,.int .i64 0])/\Below w.heap.size w q:=wH
open fPutS in
theorem zac(k:Nat)(xs:List Int)(m:Nat)(gs cl:Nat)(ft fm:Nat)(ct cm:Array Value)(bv:Value)(_hbv:bv.oneCell'=true)(cs:List Value)
  (hcs:(prog.info? 38).map (·.size)=some cs.length)
  (s:∀n w,(callFunc ft n).run prog w=.ok (.enter ft n) w) (v:∀n w,(callFunc fm n).run prog w=.ok (.enter fm n) w)
  (htell:∀b,Below w.heap.size w b->Calls prog ft (#[.agg cs.toArray]++ct) b (zS b m xs))
  (hmay:∀b gl c,m<=c->c<=maxLen->Below w.heap.size w b->b.rangeAt gl 0 (ints xs)->Calls prog fm (#[.slice (some ⟨gl,0,none⟩) m c]++cm) b fun e p=>e=.returned (.bool false)/\Below b.heap.size b p):
  Calls prog 53 #[.agg #[.int .i64 (k:Int),.slice (some ⟨gs,0,none⟩) m cl,.func (.func ft) #[] ct,.func (.func fm) #[] cm,bv],.agg cs.toArray] w
   fun e q=>e=.returned (.tuple #[bkV zB,.int .i64 10])/\Below w.heap.size w q:=ve
namespace fPutP
abbrev AC:Nat:=371
abbrev AD:Nat:=263
theorem q3c:type_of% @func231:= @func231
theorem q4c:type_of% @ntmps231:= @ntmps231
theorem q5c:type_of% @underlying263:= @underlying263
end fPutP
open fPutP in
theorem Xq{w:World}(k:Nat)(hk:k<256)(l:List (Nat×Nat))(hl:qS l)(m:Nat)(hm:l.length=m)(s:m<=100)(gs cl:Nat)(ft fm:Nat)(ct cm:Array Value)(bv:Value)(_hbv:bv.oneCell'=true)(cs:List Value)
  (hcs:(prog.info? 263).map (·.size)=some cs.length) (hs:w.rangeAt gs 0 (ints (wy l))) (hN:Nib w)
  (A:∀b w,(callFunc ft b).run prog w=.ok (.enter ft b) w) (D:∀b w,(callFunc fm b).run prog w=.ok (.enter fm b) w)
  (htell:∀W,Below w.heap.size w W->Calls prog ft (#[.agg cs.toArray]++ct) W (zS W m (numsL l)))
  (hmay:∀W gl c,m<=c->c<=maxLen->Below w.heap.size w W->W.rangeAt gl 0 (ints (numsL l))->Calls prog fm (#[.slice (some ⟨gl,0,none⟩) m c]++cm) W fun e n=>e=.returned (.bool true)/\Below W.heap.size W n):
  Calls prog 231 #[.agg #[.int .i64 (k:Int),.slice (some ⟨gs,0,none⟩) m cl,.func (.func ft) #[] ct,.func (.func fm) #[] cm,bv],.agg cs.toArray] w
   fun e q=>e=.returned (.tuple #[.agg (bkC (sectB k l)).toArray,.int .i64 0])/\Below w.heap.size w q:=wH
open fPutP in
theorem UN{w:World}(k:Nat)(xs:List Int)(m:Nat)(gs cl:Nat)(ft fm:Nat)(ct cm:Array Value)(bv:Value)(_hbv:bv.oneCell'=true)(cs:List Value)
  (hcs:(prog.info? 263).map (·.size)=some cs.length)
  (s:∀n w,(callFunc ft n).run prog w=.ok (.enter ft n) w) (v:∀n w,(callFunc fm n).run prog w=.ok (.enter fm n) w)
  (htell:∀b,Below w.heap.size w b->Calls prog ft (#[.agg cs.toArray]++ct) b (zS b m xs))
  (hmay:∀b gl c,m<=c->c<=maxLen->Below w.heap.size w b->b.rangeAt gl 0 (ints xs)->Calls prog fm (#[.slice (some ⟨gl,0,none⟩) m c]++cm) b fun e p=>e=.returned (.bool false)/\Below b.heap.size b p):
  Calls prog 231 #[.agg #[.int .i64 (k:Int),.slice (some ⟨gs,0,none⟩) m cl,.func (.func ft) #[] ct,.func (.func fm) #[] cm,bv],.agg cs.toArray] w
   fun e q=>e=.returned (.tuple #[bkV zB,.int .i64 10])/\Below w.heap.size w q:=ve
theorem Qi{gs k:Nat}(F:zbX w gs k)(G:Nib w)(a b c d:Int)(v:mayI [a,b,c,d]=true):
  Calls prog 190 #[RZ gs k,.agg #[.int .i64 a,.int .i64 b,.int .i64 c,.int .i64 d]] w fun e n=>e=.returned (.tuple #[.agg (bkC (qt a.toNat b.toNat c.toNat d.toNat)).toArray,.int .i64 0])/\Below w.heap.size w n:=by
 obtain⟨H,Q,J,K⟩:=F;have A:∀j,Below w.heap.size w j->Calls prog 252 (#[.agg [Value.int .i64 a,.int .i64 b,.int .i64 c,.int .i64 d].toArray]++ #[]) j (Xg j 4 [a,b,c,d]):=fun j _=>
  (zeU a b c d j).mono (fun e n ⟨g,p,L,hge,q⟩=>⟨g,4,p,zf L,q⟩)
 have s:∀j gl D,Below w.heap.size w j->j.rangeAt gl 0 (ints [a,b,c,d])->Calls prog 253 (#[.slice (some ⟨gl,0,none⟩) 4 D]++ #[.pointer (some ⟨k,0,none⟩)]) j fun e M=>e=.returned (.bool (mayI [a,b,c,d]))/\Below j.heap.size j M:=fun j gl D E N=>
  RY a b c d ((uuo (S:=fun _=>False) E).jU J id) (K.below E) N
 rw[v]at s;obtain⟨⟨⟨a1,a2⟩,O,R⟩,c1,T,U,c2⟩:=Xh.1 v;have e:numsL (intentL a.toNat b.toNat c.toNat d.toNat)=[a,b,c,d]:=by simp only[numsL,intentL,qzh,qzj];rw[Int.toNat_of_nonneg a1,Int.toNat_of_nonneg O,Int.toNat_of_nonneg c1,Int.toNat_of_nonneg oM]
 rw[<-e]at A s;exact(Sd (w:=w) 4 de (intentL a.toNat b.toNat c.toNat d.toNat) (Xi oM oM oM oM) 4 rfl de gs 4 252 253 #[] #[.pointer (some ⟨k,0,none⟩)] (.func (.func 255) #[] #[]) rfl [Value.int .i64 a,.int .i64 b,.int .i64 c,.int .i64 d] wv H G (fun _ _=>rfl) (fun _ _=>rfl) A s).mono
  (fun e n ⟨p,q⟩=>⟨p,q⟩)
theorem Sz(M:Nib w)(a b c d:Int)(N:mayI [a,b,c,d]=true):
  Calls prog 116 #[.agg #[.int .i64 a,.int .i64 b,.int .i64 c,.int .i64 d]] w fun e Z=>e=.returned (.tuple #[.agg (bkC (qt a.toNat b.toNat c.toNat d.toNat)).toArray,.int .i64 0])/\Below w.heap.size w Z:=by
 have a6:=qqh M;have a7:=qqh N;clear M N;go_enter func116,ntmps116
 go_wp2_with fail
 change Code.wp _ _ _ _ ((w.alloc (.cells [Value.int .i64 a,.int .i64 b,.int .i64 c,.int .i64 d].toArray 107)).alloc (.cells (bkC zB).toArray 54))
 have hr:((w.alloc (.cells [Value.int .i64 a,.int .i64 b,.int .i64 c,.int .i64 d].toArray 107)).alloc (.cells (bkC zB).toArray 54)).rangeAt w.heap.size 0 [Value.int .i64 a,.int .i64 b,.int .i64 c,.int .i64 d]:=qYj (zf (zc w _ rfl)) _;have D:((w.alloc (.cells [Value.int .i64 a,.int .i64 b,.int .i64 c,.int .i64 d].toArray 107)).alloc (.cells (bkC zB).toArray 54)).heap[w.heap.size+1]?=some (.cells (bkC zB).toArray 54):=zc _ _ oe;have s:Upd (fun _=>False) w ((w.alloc (.cells [Value.int .i64 a,.int .i64 b,.int .i64 c,.int .i64 d].toArray 107)).alloc (.cells (bkC zB).toArray 54)):=((uur _ w).alloc _).alloc _;generalize (w.alloc (.cells [Value.int .i64 a,.int .i64 b,.int .i64 c,.int .i64 d].toArray 107)).alloc (.cells (bkC zB).toArray 54)=p at*;have O:Below w.heap.size w p:=Upd.below s;refine qZd (S:=fun a8=>a8.rangeAt w.heap.size 0 [Value.int .i64 a,.int .i64 b,.int .i64 c,.int .i64 d]) kR oG (fun E=>?_);refine Wl.l 1 (fun w h=>h) underlying107 wv E ?_;refine Wl.r 0 (fun k j=>?_);go_simp
 refine(Xb _).mono ?_;rintro e aa ⟨gs,ab,rfl,Q,F⟩;have v:Below p.heap.size p aa:=yj F;refine j.o _ _ (Below.range F E) (fun R=>?_);clear j k;refine Wl.r 2 (fun k j=>?_);go_simp
 refine(Qi Q ((a6.o.keep s id).below v) a b c d a7.o).mono ?_;rintro e n ⟨rfl,G⟩;have H:Below p.heap.size p n:=v.trans (G.mono v.size);have J:=(H.block _ (zd D)).trans D;have K:n.there (w.heap.size+1) 0 64:=fun ad hj=>by
  rw[za J,zg J];exact⟨by rw[qXy,qxe oD];rfl,rfl⟩
 obtain⟨y,A⟩:=qqe (qt a.toNat b.toNat c.toNat d.toNat);have hy:y.length=64:=by rw[A];exact yT (by show 16<=59;decide)
 rw[<-A];have q:=Y2 hy A;clear hy A;have T:n.there (w.heap.size+1) 0 (bkC y).toArray.size:=by rw[zm _ q.o.1];exact K
 have U:n.there (w.heap.size+1) 0 (bkC y).length:=by rw[zn,q.o.1];exact K
 have V:(prog.info? 54).map (·.size)=some (bkC y).toArray.size:=by rw[zm _ q.o.1];exact zI
 refine j.o _ _ (Below.range G R) (fun L=>?_);clear j k;refine Wl.i [3,4] ?_;iterate 2 refine Wl.t L ?_
 refine Wl.o ?_;have W:Below w.heap.size w (n.setCells (w.heap.size+1) 0 (bkC y)):=zj (O.trans (H.mono s.size)) (zo n (w.heap.size+1) 0 _) (qXp _) (fun ae e=>oM);refine Wl.r 5 (fun k j=>?_);rw[if_pos oA];refine qZe _ _ _ rfl _ _ (List.toArray _) rfl rfl (T) (V) (qYo (zu _)) ?_;simp only[Act.put,qXd];refine j.o _ _ ((zo n (w.heap.size+1) 0 (bkC y)).range L oM) (fun X=>?_);clear j k;refine Wl.r 6 (fun k j=>?_);go_simp
 refine j.o _ _ (X) (fun _=>?_);clear j k;refine Wl.d ?_;have Y:=Y2 W U;clear T U V W K J G H F v E R L X Q hr D s O;go_wp2
 refine qYq (zp rfl _ _ (w.heap.size+1) 0 (bkC y) _ rfl (qYl _ _ _ _ Y.o.2) underlying54 rfl (zv _ q.o.1)) rfl ⟨by rw[<-q.o.2];rfl,Y.o.1⟩
end Go.Proofs.YtbnpkobbnjihjaaGreatDoor
