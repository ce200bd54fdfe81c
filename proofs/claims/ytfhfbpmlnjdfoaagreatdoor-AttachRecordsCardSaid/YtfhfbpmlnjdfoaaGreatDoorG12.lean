/- A thing of the kind Record, as a sector. The f -/
import Derived.Test.YtfhfbpmlnjdfoaaGreatDoorG11
import Derived.Test.YtfhfbpmlnjdfoaaGreatDoorG08
set_option maxRecDepth 100000
set_option maxHeartbeats 4000000
namespace Go.Proofs.YtfhfbpmlnjdfoaaGreatDoor
open Go Go.RowKit
theorem Tg{w:World}(k:Nat)(hk:k<256)(l:List (Nat×Nat))(hl:sR l)(m:Nat)(hm:l.length=m)(hm2:m<=100)(gs cl:Nat)(ft fm:Nat)(ct cm:Array Value)(bv:Value)(_hbv:bv.oneCell'=true)(cs:List Value)
  (hcs:(Tryz.prog.info? 101).map (·.size)=some cs.length) (hs:w.rangeAt gs 0 (ints (wy l))) (hN:Nib w)
  (entT:∀args w,(callFunc ft args).run Tryz.prog w=.ok (.enter ft args) w) (entM:∀args w,(callFunc fm args).run Tryz.prog w=.ok (.enter fm args) w)
  (htell:∀W,Below w.heap.size w W->Calls Tryz.prog ft (#[.agg cs.toArray]++ct) W (zO W m (numsL l)))
  (hmay:∀W gl c,m<=c->c<=maxLen->Below w.heap.size w W->W.rangeAt gl 0 (ints (numsL l))->Calls Tryz.prog fm (#[.slice (some ⟨gl,0,none⟩) m c]++cm) W fun e W'=>e=.returned (.bool true)/\Below W.heap.size W W'):
  Calls Tryz.prog 326 #[.agg #[.int .i64 (k:Int),.slice (some ⟨gs,0,none⟩) m cl,.func (.func ft) #[] ct,.func (.func fm) #[] cm,bv],.agg cs.toArray] w
   fun e w'=>e=.returned (.tuple #[.agg (bkC (sectB k l)).toArray,.int .i64 0])/\Below w.heap.size w w':=by
 have H:=Y7 hs hN htell hmay hk hl hm;have HC:=qqh hcs;clear hs hN htell hmay hk hl hm hcs;have hr:((w.alloc (.cells #[.int .i64 (k:Int),.slice (some ⟨gs,0,none⟩) m cl,.func (.func ft) #[] ct,.func (.func fm) #[] cm,bv] 296)).alloc (.cells cs.toArray 101)).rangeAt (w.heap.size+1) 0 cs:=zg (zc _ _ (by simp));go_enter Tryz.func326,Tryz.ntmps326
 go_wp2_with (first
  |(refine qZg rfl _ _ rfl _ _ rfl _ _ (qYp hr _) Tryz.underlying101 rfl HC.o ?_)
  |fail)
 show Calls _ _ _ (((w.alloc (.cells #[.int .i64 (k:Int),.slice (some ⟨gs,0,none⟩) m cl,.func (.func ft) #[] ct,.func (.func fm) #[] cm,bv] 296)).alloc (.cells cs.toArray 101)).alloc (.cells (bkC zB).toArray 54)) _;obtain⟨h1,h2,h3,h4,h5⟩:=yG w (.cells #[.int .i64 (k:Int),.slice (some ⟨gs,0,none⟩) m cl,.func (.func ft) #[] ct,.func (.func fm) #[] cm,bv] 296) (.cells cs.toArray 101) (.cells (bkC zB).toArray 54);clear hr;generalize ((w.alloc (.cells #[.int .i64 (k:Int),.slice (some ⟨gs,0,none⟩) m cl,.func (.func ft) #[] ct,.func (.func fm) #[] cm,bv] 296)).alloc (.cells cs.toArray 101)).alloc (.cells (bkC zB).toArray 54)=w3 at*;refine(H.o.2.2.1 w3 (Upd.below h5)).mono ?_;rintro e w4 ⟨gl,c4,rfl,hc4,hc5,hr4,hb4⟩;have hu4:=qqb hb4;have f1:=(hu4.block _ (zd h1) (fun h=>h)).trans h1;have f3:=(hu4.block _ (zd h3) (fun h=>h)).trans h3;have m3:w4.cell? ⟨w.heap.size,3,none⟩=some (.func (.func fm) #[] cm):=za f1 3;have H4:=Y5 hr4 (h5.trans hu4) f1 f3 h4;clear h1 h2 h3 h4 h5 hr4 hb4 hu4 f1 f3;go_wp2_with fail
 refine(H.o.2.2.2.1 w4 gl c4 hc4 hc5 (Upd.below H4.o.2.1) H4.o.1).mono ?_;rintro e w5 ⟨rfl,hb5⟩;have hu5:=qqb hb5;obtain⟨r4,u4,f1,f3,z4⟩:=H4.o;have r5:=hu5.range r4 (fun h=>h);have g1:=(hu5.block _ (zd f1) (fun h=>h)).trans f1;have g3:=(hu5.block _ (zd f3) (fun h=>h)).trans f3;have m0:w5.cell? ⟨w.heap.size,0,none⟩=some (.int .i64 (k:Int)):=za g1 0;have z5:w.heap.size+3<=w5.heap.size:=by have h1:=zd g3;have h2:=hu5.size;have h3:=u4.size;have h4:=zd f3;have h5:=z4;have h6:=H4.o.2.2.2.2;omega
 have H5:=Y4 r5 (u4.trans hu5) g1 g3;clear r4 u4 f1 f3 z4 r5 g1 g3 hu5 hb5 m3;go_wp2_with fail
 generalize hM:w.heap.size=M at*;have HM:=qqh hM;clear hM;refine qZj (S:=fun W=>W.cell? ⟨M,0,none⟩=some (.int .i64 (k:Int))) (by kernel_rfl) (by rw[qYo];exact m0) (fun hHeld=>?_);refine qZf (i:=1) (v:=?_) rfl (by kernel_rfl) (by kernel_rfl) (by kernel_rfl) (fun _ _ _ h=>h) (Or.inl ⟨by rfl,?_⟩) hHeld ?_
 rotate_left
 .intro W hSw;(try dsimp only at hSw);(try go_split_ands);go_simp;(try with_reducible rfl)
 simp only[Act.put,qXi];refine qZf (i:=2) (v:=?_) rfl (by kernel_rfl) (by kernel_rfl) (by kernel_rfl) (fun _ _ _ h=>h) (Or.inl ⟨by rfl,?_⟩) hHeld ?_
 rotate_left
 .intro W hSw;(try dsimp only at hSw);(try go_split_ands);go_simp;(try with_reducible rfl)
 simp only[Act.put];refine Wl.r 0 (fun K hK=>?_);go_simp
 refine(Xj _).mono ?_;rintro e w6 ⟨g,rfl,hW,hge,hB⟩;have hge':w5.heap.size<=g:=hge;refine hK.o _ _ ((uuo (S:=fun _=>False) hB).cellv hHeld (fun h=>h)) (fun hHeld2=>?_);clear hK K;refine Wl.r 3 (fun K hK=>?_);go_simp
 refine(Vx hW k 1 (by decide) (by decide) (by have:=H.o.2.2.2.2.1;omega) (by decide)).mono ?_;rintro e w7 ⟨rfl,hW2,hU⟩;refine hK.o _ _ (hU.cellv hHeld2 (by omega)) (fun hHeld3=>?_);clear hK K;refine Wl.r 4 (fun K hK=>?_);go_simp
 refine hK.o _ _ (hHeld3) (fun _=>?_);clear hK K;refine Wl.d ?_;obtain⟨r5,u5,g1,g3⟩:=H5.o;obtain⟨hs,hN,-,-,hk,hl,hm⟩:=H.o;have u57:Upd (fun j=>j=g) w5 w7:=((uuo (S:=fun _=>False) (yg hB)).mono (fun _ _ h=>h.elim)).trans hU;have glt:gl<w5.heap.size\/m=0:=by
  rcases qXt m with h|h
  .exact .inr h
  .exact .inl (qYn w5 _ (r5 0 _ (xl (by omega))))
 have nM:w.heap.size=M:=HM.o;have gslt:gs<w.heap.size\/m=0:=by
  rcases qXt m with h|h
  .exact .inr h
  .exact .inl (qYn w _ (hs 0 _ (yU (by omega))))
 have ws5:=u5.size;have m1:w7.cell? ⟨M,1,none⟩=some (.slice (some ⟨gs,0,none⟩) m cl):=u57.cellv (za g1 1) (by omega);have g3':=(u57.block (M+1+1) (zd g3) (by omega)).trans g3;have hN7:Nib w7:=((hN.keep u5 (fun h=>h)).keep u57 (by have:=hN.lt;omega))
 have hlow:Below M w w7:=zj (by rw[<-nM];exact Upd.below u5) u57 (by rw[<-nM];exact qXv _) (fun k e=>by omega);have hr7:∀i (hi:i<l.length) W,Upd (fun j=>j=g) w7 W->W.cell? ⟨gl,0+i,none⟩=some (.int .i64 (l[i].1:Int)):=fun i hi W hW=>hW.cellv (u57.cellv (r5 i _ (xl hi)) (by omega)) (by omega);have hs7:∀i (hi:i<l.length) W,Upd (fun j=>j=g) w7 W->W.cell? ⟨gs,0+i,none⟩=some (.int .i64 (l[i].2:Int)):=fun i hi W hW=>hW.cellv (u57.cellv ((u5.range hs (fun h=>h)) i _ (yU hi)) (by omega)) (by omega);have H7:=Y9 hr7 hs7 m1 g3' hN7 hlow hl hm hW2;have hgeM:M<=g:=by omega
 have hgM:¬M=g:=by omega
 have hgM2:¬M+1+1=g:=by omega
 have hMw:=zd g3'
 rename_i hx
 clear hx hHeld hHeld2 hHeld3 hW hge hB hU hW2 hN hs hk hl hm r5 u5 g1 g3 u57 glt gslt nM ws5 m1 g3' hN7 hlow hr7 hs7 m0;go_wp2
 go_loopw[26] (fun s26 wr=>∃i:Nat,i<=m/\s26=.int .i64 i/\WrAt wr g (lowB k 1++encB (l.take i))/\Upd (fun j=>j=g) w7 wr) (fun s26 _=>m-(intOf s26).toNat)
 case atStart=>exact⟨0,qYf _,rfl,by simpa[encB]using H7.o.2.2.2.2.2.2.2.2,uur _ _⟩
 case round=>
  obtain⟨i,hi,rfl,hW,hu⟩:=hrel;by_cases hlt:i<m
  .obtain ⟨hr7,hs7,m1,g3',hN7,hlow,hl,hm,-⟩:=H7.o;have hil:i<l.length:=by omega
   have x1:=hr7 i hil wr hu;have x2:=hs7 i hil wr hu;have x3:=hu.cellv m1 hgM;rw[qYe]at x1 x2;have hfit:=hl.1 l[i] (qyz hil);have hsz:=vq l hil;have hts:Hid (encB (l.take (i+1))=encB (l.take i)++lowB l[i].1 l[i].2):=by show _=_;rw[qXq hil,ut]
   have hlen:(lowB k 1++encB (l.take i)).length+l[i].2<=60:=by
    rw[qzd,zU,xQ];have:=hl.2;omega
   have b1:(0:Int)<=(i:Int)/\(i:Int)<(m:Int):=by omega
   have HX:=Y4 hW hu hfit hlen;clear hr7 hs7 m1 g3' hN7 hlow hl hm hW hu hfit hsz hlen;obtain⟨b1,b2⟩:=b1;generalize l[i]=p at*;go_wp2_with fail
   refine(Vx HX.o.1 p.1 p.2 HX.o.2.2.1.2.1 HX.o.2.2.1.2.2 HX.o.2.2.1.1 HX.o.2.2.2).mono ?_;rintro e w8 ⟨rfl,hW8,hU8⟩;have HZ:=Y2 hW8 hU8;clear hW8 hU8;go_wp2
   go_roundw
   case rel=>exact⟨i+1,by omega,by go_num,by rw[hts.out,<-qxx];exact HZ.o.1,HX.o.2.1.trans HZ.o.2⟩
   case measure=>simp[intOf];omega
  .obtain rfl:i=m:=by omega
   obtain⟨hr7,hs7,m1,g3',hN7,hlow,hl,hm,-⟩:=H7.o;have hN8:=hN7.keep hu (by have:=(H.o.2.1).lt;have:=HM.o;omega);rw[qXp (by omega)]at hW;have hg3:=(hu.block (M+1+1) (zd g3') hgM2).trans g3';have hlen:Hid ((sectB k l).length=64):=xo hl.2;have HX:=Y6 hW hN8 hu hg3 hlow hl;have hus:=hu.size;clear hr7 hs7 m1 g3' hN7 hlow hl hm hW hu hN8 hg3;go_wp2_with fail
   refine(Td HX.o.1 HX.o.2.1).mono ?_;rintro e w9 ⟨rfl,hb9⟩;have hg9:=(hb9.block (M+1+1) (zd HX.o.2.2.2.1)).trans HX.o.2.2.2.1;have hth:w9.there (M+1+1) 0 64:=fun j hj=>by
    rw[za hg9,zf hg9];exact⟨by rw[qYe,qxe (by rw[zl _ zw];exact hj)];rfl,rfl⟩
   have hbl:Hid (Below M w w9):=(zj HX.o.2.2.2.2.1 HX.o.2.2.1 (by have:=HM.o;omega) (fun k e=>by omega)).trans (hb9.mono (by omega));have hsl:=hlen.out;have hst:w9.there (M+1+1) 0 (bkC (sectB k l)).toArray.size:=by rw[zl _ hsl];exact hth
   have hst2:w9.there (M+1+1) 0 (bkC (sectB k l)).length:=by rw[zo,hsl];exact hth
   have hsz2:(Tryz.prog.info? 54).map (·.size)=some (bkC (sectB k l)).toArray.size:=by rw[zl _ hsl];exact zF
   have HST:=Y4 hst hsz2 hst2 hsl;clear hst hsz2 hst2 hsl hg9 hth hb9 hlen;rw[show sealB (padB (lowB k 1++encB l))=sectB k l from rfl];generalize hsb:sectB k l=sb at*;have Hsb:=qqh hsb;clear hsb;go_wp2_with (first
    |(refine qZi rfl _ _ _ rfl _ _ (bkC sb).toArray rfl rfl HST.o.1 HST.o.2.1 (qYu (zv _)) ?_)
    |fail)
   refine qYw (zn rfl _ _ (M+1+1) 0 (bkC sb) _ rfl (qYr _ _ _ _ HST.o.2.2.1) Tryz.underlying54 rfl (zt _ HST.o.2.2.2)) rfl
     ⟨by rw[Hsb.out];rfl,?_⟩
   rw[HM.o];exact zj hbl.out (zp w9 (M+1+1) 0 _) (by have:=HM.o;omega) (fun k e=>by omega)
theorem RM{w:World}(k:Nat)(xs:List Int)(m:Nat)(gs cl:Nat)(ft fm:Nat)(ct cm:Array Value)(bv:Value)(_hbv:bv.oneCell'=true)(cs:List Value)
  (hcs:(Tryz.prog.info? 101).map (·.size)=some cs.length)
  (entT:∀args w,(callFunc ft args).run Tryz.prog w=.ok (.enter ft args) w) (entM:∀args w,(callFunc fm args).run Tryz.prog w=.ok (.enter fm args) w)
  (htell:∀W,Below w.heap.size w W->Calls Tryz.prog ft (#[.agg cs.toArray]++ct) W (zO W m xs))
  (hmay:∀W gl c,m<=c->c<=maxLen->Below w.heap.size w W->W.rangeAt gl 0 (ints xs)->Calls Tryz.prog fm (#[.slice (some ⟨gl,0,none⟩) m c]++cm) W fun e W'=>e=.returned (.bool false)/\Below W.heap.size W W'):
  Calls Tryz.prog 326 #[.agg #[.int .i64 (k:Int),.slice (some ⟨gs,0,none⟩) m cl,.func (.func ft) #[] ct,.func (.func fm) #[] cm,bv],.agg cs.toArray] w
   fun e w'=>e=.returned (.tuple #[bkV zB,.int .i64 10])/\Below w.heap.size w w':=by
 have H:=Y2 htell hmay;have HC:=qqh hcs;clear htell hmay hcs;have hr:((w.alloc (.cells #[.int .i64 (k:Int),.slice (some ⟨gs,0,none⟩) m cl,.func (.func ft) #[] ct,.func (.func fm) #[] cm,bv] 296)).alloc (.cells cs.toArray 101)).rangeAt (w.heap.size+1) 0 cs:=zg (zc _ _ (by simp));go_enter Tryz.func326,Tryz.ntmps326
 go_wp2_with (first
  |(refine qZg rfl _ _ rfl _ _ rfl _ _ (qYp hr _) Tryz.underlying101 rfl HC.o ?_)
  |fail)
 show Calls _ _ _ (((w.alloc (.cells #[.int .i64 (k:Int),.slice (some ⟨gs,0,none⟩) m cl,.func (.func ft) #[] ct,.func (.func fm) #[] cm,bv] 296)).alloc (.cells cs.toArray 101)).alloc (.cells (bkC zB).toArray 54)) _;obtain⟨h1,h2,h3,h4,h5⟩:=yG w (.cells #[.int .i64 (k:Int),.slice (some ⟨gs,0,none⟩) m cl,.func (.func ft) #[] ct,.func (.func fm) #[] cm,bv] 296) (.cells cs.toArray 101) (.cells (bkC zB).toArray 54);clear hr;generalize ((w.alloc (.cells #[.int .i64 (k:Int),.slice (some ⟨gs,0,none⟩) m cl,.func (.func ft) #[] ct,.func (.func fm) #[] cm,bv] 296)).alloc (.cells cs.toArray 101)).alloc (.cells (bkC zB).toArray 54)=w3 at*;refine(H.o.1 w3 (Upd.below h5)).mono ?_;rintro e w4 ⟨gl,c4,rfl,hc4,hc5,hr4,hb4⟩;have hu4:=qqb hb4;have f1:=(hu4.block _ (zd h1) (fun h=>h)).trans h1;have f3:=(hu4.block _ (zd h3) (fun h=>h)).trans h3;have m3:w4.cell? ⟨w.heap.size,3,none⟩=some (.func (.func fm) #[] cm):=za f1 3;have H4:=Y5 hr4 (h5.trans hu4) f1 f3 h4;clear h1 h2 h3 h4 h5 hr4 hb4 hu4 f1 f3;go_wp2_with fail
 refine(H.o.2 w4 gl c4 hc4 hc5 (Upd.below H4.o.2.1) H4.o.1).mono ?_;rintro e w5 ⟨rfl,hb5⟩;have hu5:=qqb hb5;obtain⟨r4,u4,f1,f3,z4⟩:=H4.o;have g3:=(hu5.block _ (zd f3) (fun h=>h)).trans f3;have hth:w5.there (w.heap.size+1+1) 0 64:=fun j hj=>by
  rw[za g3,zf g3];exact⟨by rw[qYe,qxe (by rw[zl _ zw];exact hj)];rfl,rfl⟩
 obtain⟨z,Hz⟩:∃z:Bk,Hid (z=zB):=⟨zB,rfl⟩
 have hst:w5.there (w.heap.size+1+1) 0 (bkC z).toArray.size:=by rw[Hz.out,zl _ zw];exact hth
 have hst2:w5.there (w.heap.size+1+1) 0 (bkC z).length:=by rw[Hz.out,zo,zw];exact hth
 have hsz2:(Tryz.prog.info? 54).map (·.size)=some (bkC z).toArray.size:=by rw[Hz.out,zl _ zw];exact zF
 have HST:=Y3 hst hsz2 hst2;have HU:=qqh (u4.trans hu5);clear r4 u4 f1 f3 z4 hst hst2 hsz2 hth hu5 hb5 g3 m3;go_wp2_with (first
   |(refine qZi rfl _ _ _ rfl _ _ (bkC z).toArray rfl (by rw[Hz.out];rfl) HST.o.1 HST.o.2.1 (qYu (zv _)) ?_)
   |fail)
 exact qYw (zn rfl _ _ (w.heap.size+1+1) 0 (bkC z) _ rfl (qYr _ _ _ _ HST.o.2.2) Tryz.underlying54 rfl (by rw[Hz.out];exact zt zB zw)) rfl
  ⟨by rw[Hz.out];rfl,zj (Upd.below HU.o) (zp w5 (w.heap.size+1+1) 0 _) (qXv _) (fun k e=>by omega)⟩
def szR:List Nat:=[6,6,1,2,2,1,4]
def Xn(gs gt:Nat):Value:=.agg #[.int .i64 2,.slice (some ⟨gs,0,none⟩) 7 7,.func (.func 250) #[] #[],.func (.func 252) #[] #[.pointer (some ⟨gt,0,none⟩)],.func (.func 253) #[] #[]]
def Th(w:World)(gs gt:Nat):Prop:=w.rangeAt gs 0 (ints (natsI szR))/\∃v,w.cell? ⟨gt,0,none⟩=some v/\Bnd w v bndR
theorem RN:(Tryz.prog.info? 296).map (·.size)=some 5:=by kernel_rfl
theorem infoThR:(Tryz.prog.info? 101).map (·.size)=some 7:=by kernel_rfl
theorem uY(w:World):Calls Tryz.prog 178 #[] w fun e w'=>∃gs gt,e=.returned (Xn gs gt)/\Th w' gs gt/\Below w.heap.size w w':=by
 have hmf:=qqf;go_enter Tryz.func178,Tryz.ntmps178
 go_wp2_with fail
 refine(wM).mono ?_;rintro e w1 ⟨rfl,rfl⟩;go_wp2
 obtain⟨h1,h2,h3,h4,h5,h6,h7⟩:=ZS w (.cells #[.int .i64 2,.slice (some ⟨w.heap.size+1+1+1+1,0,none⟩) 7 7,.func (.func 250) #[] #[],.func (.func 252) #[] #[.pointer (some ⟨w.heap.size+1+1+1,0,none⟩)],.func (.func 253) #[] #[]] 296)
  (.cells (bndC bndR).toArray 219) (.cells #[.slice (some ⟨w.heap.size+1,0,none⟩) 7 7] 321) (.cells #[.func (.func 196) #[] #[.pointer (some ⟨w.heap.size+1+1,0,none⟩)]] 134) (.cells (ints (natsI szR)).toArray 3)
 refine qYw (zM rfl _ _ w.heap.size 0 [.int .i64 2,.slice (some ⟨w.heap.size+1+1+1+1,0,none⟩) 7 7,.func (.func 250) #[] #[],.func (.func 252) #[] #[.pointer (some ⟨w.heap.size+1+1+1,0,none⟩)],.func (.func 253) #[] #[]] _ rfl (zg h1) Tryz.underlying296 rfl RN) rfl
  ⟨w.heap.size+1+1+1+1,w.heap.size+1+1+1,rfl,⟨zg h5,_,za h4 0,w.heap.size+1+1,w.heap.size+1,7,rfl,za h3 0,zg h2⟩,Upd.below h7⟩
def sectR(xs:List Int):Bk:=sectB 2 (numL szR xs)
theorem rD{xs:List Int}(h:xs.length=7):(sectR xs).length=64:=xo (by rw[wi (by rw[h];rfl)];decide)
def ZV(w:World)(xs:List Int)(e:Ending)(w':World):Prop:=
 ((mayR xs=true/\e=.returned (.tuple #[.agg (bkC (sectR xs)).toArray,.int .i64 0]))\/(mayR xs=false/\e=.returned (.tuple #[.agg (bkC zB).toArray,.int .i64 10])))/\Below w.heap.size w w'
theorem Ti{w:World}{gs gt:Nat}(hF:Th w gs gt)(hN:Nib w)(cs:List Value)(hcs:cs.length=7)(xs:List Int)(hxl:xs.length=7)
  (htell:∀W,Calls Tryz.prog 250 #[.agg cs.toArray] W (zO W 7 xs)):
  Calls Tryz.prog 326 #[Xn gs gt,.agg cs.toArray] w (ZV w xs):=by
 obtain⟨hs,v,hv,hB⟩:=hF;have hcz:(Tryz.prog.info? 101).map (·.size)=some cs.length:=by rw[hcs];exact infoThR
 have htell':∀W,Below w.heap.size w W->Calls Tryz.prog 250 (#[.agg cs.toArray]++ #[]) W (zO W 7 xs):=fun W _=>htell W;have hmay:∀W gl cc,7<=cc->cc<=maxLen->Below w.heap.size w W->W.rangeAt gl 0 (ints xs)->Calls Tryz.prog 252 (#[.slice (some ⟨gl,0,none⟩) 7 cc]++ #[.pointer (some ⟨gt,0,none⟩)]) W fun e W'=>e=.returned (.bool (mayR xs))/\Below W.heap.size W W':=fun W gl cc hc hc2 hW hr=>
  ZU xs hxl hc hc2 ((uuo (S:=fun _=>False) hW).cellv hv (fun h=>h)) (hB.below hW) hr
 cases hm:mayR xs with
 |false=>
  rw[hm]at hmay;exact(RM (w:=w) 2 xs 7 gs 7 250 252 #[] #[.pointer (some ⟨gt,0,none⟩)] (.func (.func 253) #[] #[]) rfl cs hcz (fun _ _=>rfl) (fun _ _=>rfl) htell' hmay).mono
   (fun e w' ⟨he,hb⟩=>⟨.inr ⟨hm,he⟩,hb⟩)
 |true=>
  rw[hm]at hmay;obtain⟨h0,hfit⟩:=rC hxl hm;have e:numsL (numL szR xs)=xs:=wO (by rw[hxl];rfl) h0;rw[<-e]at htell' hmay;exact(Tg (w:=w) 2 (by decide) (numL szR xs) hfit 7 (by rw[vT (by rw[hxl];rfl)];rfl) (by decide) gs 7 250 252 #[] #[.pointer (some ⟨gt,0,none⟩)] (.func (.func 253) #[] #[]) rfl cs hcz (by rw[tW (by rw[hxl];rfl)];exact hs) hN (fun _ _=>rfl) (fun _ _=>rfl) htell' hmay).mono
   (fun e w' ⟨he,hb⟩=>⟨.inl ⟨hm,he⟩,hb⟩)
theorem Tj{w:World}(hN:Nib w)(cs:List Value)(hcs:cs.length=7)(xs:List Int)(hxl:xs.length=7)
  (htell:∀W,Calls Tryz.prog 250 #[.agg cs.toArray] W (zO W 7 xs)):
  Calls Tryz.prog 304 #[.agg cs.toArray] w (ZV w xs):=by
 have HN:=Y2 hN htell;have hcz:(Tryz.prog.info? 101).map (·.size)=some cs.length:=by rw[hcs];exact infoThR
 have HC:=qqh hcz;have hr:((w.alloc (.cells cs.toArray 101)).alloc (.cells (bkC zB).toArray 54)).rangeAt w.heap.size 0 cs:=qYp (zg (zc w _ rfl)) _;clear hN htell hcz;go_enter Tryz.func304,Tryz.ntmps304
 go_wp2_with fail
 change Code.wp _ _ _ _ ((w.alloc (.cells cs.toArray 101)).alloc (.cells (bkC zB).toArray 54))
 have hg:((w.alloc (.cells cs.toArray 101)).alloc (.cells (bkC zB).toArray 54)).heap[w.heap.size+1]?=some (.cells (bkC zB).toArray 54):=zc _ _ (by simp);have hu:Upd (fun _=>False) w ((w.alloc (.cells cs.toArray 101)).alloc (.cells (bkC zB).toArray 54)):=((uur _ w).alloc _).alloc _;generalize (w.alloc (.cells cs.toArray 101)).alloc (.cells (bkC zB).toArray 54)=w2 at*;have hb2:Below w.heap.size w w2:=Upd.below hu;refine qZj (S:=fun W=>W.rangeAt w.heap.size 0 cs) (by kernel_rfl) (by rw[qYq];exact hr) (fun hHeld=>?_);refine Wl.l 1 (fun w h=>h) Tryz.underlying101 HC.o hHeld ?_;refine Wl.r 0 (fun K hK=>?_);go_simp
 refine(uY _).mono ?_;rintro e w3 ⟨gs,gt,rfl,hF,hb3⟩;have hb3':Below w2.heap.size w2 w3:=yg hb3;refine hK.o _ _ (Below.range hb3 hHeld) (fun hHeld2=>?_);clear hK K;refine Wl.r 2 (fun K hK=>?_);go_simp
 refine(Ti hF ((HN.o.1.keep hu (fun h=>h)).below hb3') cs hcs xs hxl HN.o.2).mono ?_;rintro e w4 ⟨he,hb4⟩;have hb4':Below w2.heap.size w2 w4:=hb3'.trans (hb4.mono hb3'.size);have hg4:=(hb4'.block _ (zd hg)).trans hg;have hth:w4.there (w.heap.size+1) 0 64:=fun j hj=>by
  rw[za hg4,zf hg4];exact⟨by rw[qYe,qxe (by rw[zl _ zw];exact hj)];rfl,rfl⟩
 obtain⟨y,cd,hy,hres,rfl⟩:∃(y:Bk) (cd:Int),y.length=64/\((mayR xs=true/\y=sectR xs/\cd=0)\/(mayR xs=false/\y=zB/\cd=10))/\e=.returned (.tuple #[.agg (bkC y).toArray,.int .i64 cd]):=by
  rcases he with⟨hm,rfl⟩|⟨hm,rfl⟩
  .exact ⟨_,0,rD hxl,.inl ⟨hm,rfl,rfl⟩,rfl⟩
  .exact ⟨_,10,zw,.inr ⟨hm,rfl,rfl⟩,rfl⟩
 have HR:=Y2 hy hres;clear he hy hres;have hst:w4.there (w.heap.size+1) 0 (bkC y).toArray.size:=by rw[zl _ HR.o.1];exact hth
 have hst2:w4.there (w.heap.size+1) 0 (bkC y).length:=by rw[zo,HR.o.1];exact hth
 have hsz2:(Tryz.prog.info? 54).map (·.size)=some (bkC y).toArray.size:=by rw[zl _ HR.o.1];exact zF
 refine hK.o _ _ (Below.range hb4 hHeld2) (fun hHeld3=>?_);clear hK K;refine Wl.i [3,4] ?_;iterate 2 refine Wl.t hHeld3 ?_
 refine Wl.o ?_;have hU5:Below w.heap.size w (w4.setCells (w.heap.size+1) 0 (bkC y)):=zj (hb2.trans (hb4'.mono hu.size)) (zp w4 (w.heap.size+1) 0 _) (qXv _) (fun k e=>by omega);refine Wl.r 5 (fun K hK=>?_);rw[if_pos (by rfl)];refine qZk _ _ _ rfl _ _ (List.toArray _) rfl rfl (hst) (hsz2) (qYu (zv _)) ?_;simp only[Act.put,qXi];refine hK.o _ _ ((zp w4 (w.heap.size+1) 0 (bkC y)).range hHeld3 (by omega)) (fun hHeld4=>?_);clear hK K;refine Wl.r 6 (fun K hK=>?_);go_simp
 refine hK.o _ _ (hHeld4) (fun _=>?_);clear hK K;refine Wl.d ?_;have HE:=Y2 hU5 hst2;clear hst hst2 hsz2 hU5 hth hg4 hb4 hb4' hb3 hb3' hHeld hHeld2 hHeld3 hHeld4 hF hr hg hu hb2;go_wp2
 refine qYw (zn rfl _ _ (w.heap.size+1) 0 (bkC y) _ rfl (qYr _ _ _ _ HE.o.2) Tryz.underlying54 rfl (zt _ HR.o.1)) rfl ⟨?_,HE.o.1⟩;rcases HR.o.2 with⟨hm,rfl,rfl⟩|⟨hm,rfl,rfl⟩
 .exact .inl ⟨hm,rfl⟩
 .exact .inr ⟨hm,rfl⟩
abbrev recC(a0 a1 a2 a3 a4:Int)(d:Bool)(a6:Int):List Value:=[.int .i64 a0,.int .i64 a1,.int .i64 a2,.int .i64 a3,.int .i64 a4,.bool d,.int .i64 a6]
abbrev recX(a0 a1 a2 a3 a4:Int)(d:Bool)(a6:Int):List Int:=[a0,a1,a2,a3,a4,(bitN d:Int),a6]
theorem AA(a0 a1 a2 a3 a4:Int)(d:Bool)(a6:Int)(w:World):Calls Tryz.prog 250 #[.agg (recC a0 a1 a2 a3 a4 d a6).toArray] w (zO w 7 (recX a0 a1 a2 a3 a4 d a6)):=by
 obtain⟨L,hL⟩:=qqe ((recC a0 a1 a2 a3 a4 d a6).toArray);have hg:=zc w (.cells L 101) rfl;have c0:(w.alloc (.cells L 101)).cell? ⟨w.heap.size,0,none⟩=some (.int .i64 a0):=(za hg 0).trans (by rw[hL];rfl);have c1:(w.alloc (.cells L 101)).cell? ⟨w.heap.size,1,none⟩=some (.int .i64 a1):=(za hg 1).trans (by rw[hL];rfl);have c2:(w.alloc (.cells L 101)).cell? ⟨w.heap.size,2,none⟩=some (.int .i64 a2):=(za hg 2).trans (by rw[hL];rfl);have c3:(w.alloc (.cells L 101)).cell? ⟨w.heap.size,3,none⟩=some (.int .i64 a3):=(za hg 3).trans (by rw[hL];rfl);have c4:(w.alloc (.cells L 101)).cell? ⟨w.heap.size,4,none⟩=some (.int .i64 a4):=(za hg 4).trans (by rw[hL];rfl);have c5:(w.alloc (.cells L 101)).cell? ⟨w.heap.size,5,none⟩=some (.bool d):=(za hg 5).trans (by rw[hL];rfl);have c6:(w.alloc (.cells L 101)).cell? ⟨w.heap.size,6,none⟩=some (.int .i64 a6):=(za hg 6).trans (by rw[hL];rfl);rw[<-hL];have hb:Below w.heap.size w (w.alloc (.cells L 101)):=(qxl _ _).alloc (qXv _) _;have HB:=qqh hb;clear hg hL hb;go_enter Tryz.func250,Tryz.ntmps250
 go_wp2
 generalize w.alloc (.cells L 101)=w1 at*;obtain⟨m,hm⟩:=qqe (w.heap.size);rw[<-hm]at c0 c1 c2 c3 c4 c5 c6⊢;have HM:=qqh hm;clear hm;refine qZj (S:=fun W=>W.cell? ⟨m,0,none⟩=some (.int .i64 a0)/\W.cell? ⟨m,1,none⟩=some (.int .i64 a1)/\W.cell? ⟨m,2,none⟩=some (.int .i64 a2)/\W.cell? ⟨m,3,none⟩=some (.int .i64 a3)/\W.cell? ⟨m,4,none⟩=some (.int .i64 a4)/\W.cell? ⟨m,5,none⟩=some (.bool d)/\W.cell? ⟨m,6,none⟩=some (.int .i64 a6)) (by kernel_rfl) (by(simp only[qYo]);exact⟨c0,c1,c2,c3,c4,c5,c6⟩) (fun hHeld=>?_);refine Wl.i [0,1,2,3,4,5,6,7,8,9,10,11,13,14] ?_;iterate 14 refine Wl.t hHeld ?_
 refine Wl.o ?_;refine Wl.r 12 (fun K hK=>?_);go_simp
 refine(Ww d _).mono ?_;rintro e w3 ⟨rfl,h3⟩;rw[<-h3];clear h3 w3;refine hK.o _ _ (hHeld) (fun hH1=>?_);clear hK K;refine Wl.r 15 (fun K hK=>?_);go_simp
 refine hK.o _ _ (⟨zm hH1.1 _,zm hH1.2.1 _,zm hH1.2.2.1 _,zm hH1.2.2.2.1 _,zm hH1.2.2.2.2.1 _,zm hH1.2.2.2.2.2.1 _,zm hH1.2.2.2.2.2.2 _⟩) (fun hH2=>?_);clear hK K;refine Wl.r 16 (fun K hK=>?_);go_simp
 refine hK.o _ _ (hH2) (fun hH3=>?_);clear hK K;refine Wl.d ?_;clear hHeld hH1 hH2;go_wp2
 go_ret
 refine⟨w1.heap.size,7,rfl,qXv _,by unfold maxLen;omega,zg (zc w1.drew _ rfl),?_⟩;exact(zS HB.o 1).alloc HB.o.size _
attribute [local go_sem↓] sO Xi tT sP Go.wp_at_zero Go.wp_at_succ
theorem Jl{S:Nat->Prop}{w:World}{j d base n cov next:Nat}{W:List (Nat×Bk)}(h:Jn S w j d base n cov next W):
  Calls Tryz.prog 232 #[.pointer (some ⟨j,0,none⟩)] w fun e w'=>e=.returned (.int .i64 ((n:Int)-((next:Int)-1-(cov:Int))))/\Upd (fun _=>False) w w':=by
 obtain⟨v,h,-⟩:=h;obtain⟨-,-,c2,c3,c4,-⟩:=h.c;obtain⟨-,-,hn,hwl,hrm,hmx,-⟩:=h.good;have q1:IntKind.i64.wrap ((next:Int)-1)=(next:Int)-1:=qxv _ (by omega);have q2:IntKind.i64.wrap ((next:Int)-1-(cov:Int))=(next:Int)-1-(cov:Int):=qxv _ (by omega);have q3:IntKind.i64.wrap ((n:Int)-((next:Int)-1-(cov:Int)))=(n:Int)-((next:Int)-1-(cov:Int)):=qxv _ (by omega);clear h hn hwl hrm hmx;go_enter Tryz.func232,Tryz.ntmps232
 go_wp2
 go_quiet(fail)
 go_wp2
 go_ret
 exact⟨rfl,(uur _ _).drewN nq⟩
theorem wC{w:World}{g i k:Nat}{v u:Value}(h:w.cell? ⟨g,i,none⟩=some v)(hne:¬k=i):(w.setCell ⟨g,k,none⟩ u).cell? ⟨g,i,none⟩=some v:=by
 rw[World.cell?_setCell_other _ _ _ _ (fun e=>hne (congrArg Addr.off e)),h]
abbrev jaddX(next n:Nat)(op block slot:Int)(d:Bool)(sum:Int):List Int:=recX (next:Int) (((next-1)/n:Nat):Int) op block slot d sum
theorem JnGood.add{base n cov next:Nat}{W:List (Nat×Bk)}(h:JnGood base n cov next W)(hroom:next<=cov+n)(hmx:next<=1099511627776){y:Bk}(hy:y.length=64):JnGood base n cov (next+1) (W++[(next,y)]):=
 ⟨fun p hp=>by rcases qzq.1 hp with h1|h1;exact h.w64 p h1;simp at h1;subst h1;exact hy,
  fun p hp=>by rcases qzq.1 hp with h1|h1;have:=h.lt p h1;omega;simp at h1;subst h1;simp,
  h.n1,by have:=h.wl;simp;omega,by omega,by omega,h.bs⟩
def RO(S:Nat->Prop)(w:World)(j d base n cov next:Nat)(W:List (Nat×Bk))(y:Bk)(e:Ending)(w':World):Prop:=
 e=.returned (.tuple #[.int .i64 (next:Int),.int .i64 0])/\Jn S w' j d base n cov (next+1) (W++[(next,y)])/\Upd S w w'
theorem zav{S:Nat->Prop}{w:World}{j d base n cov next:Nat}{W:List (Nat×Bk)}(h:Jn S w j d base n cov next W)(hn:∀k,w.heap.size<=k->S k)(hN:Nib w)(hSN:¬S 0)(hroom:next<=cov+n)(hmx:next<=1099511627776)
  (a0 a1 op block slot:Int) (db:Bool) (sum:Int) (hmay:mayR (jaddX next n op block slot db sum)=true):
  Calls Tryz.prog 239 #[.pointer (some ⟨j,0,none⟩),.agg (recC a0 a1 op block slot db sum).toArray] w (RO S w j d base n cov next W (sectR (jaddX next n op block slot db sum))):=by
 obtain⟨vw,h,hS⟩:=h;have hgd:=h.good;obtain⟨w1,hw1⟩:=qqe (w.alloc (.cells (recC a0 a1 op block slot db sum).toArray 101));have hu1:Upd (fun _=>False) w w1:=by rw[hw1];exact(uur _ w).alloc _
 have hg1:w1.heap[w.heap.size]?=some (.cells (recC a0 a1 op block slot db sum).toArray 101 (0,0)):=by rw[hw1];exact zc w _ rfl
 have HRm:=qqh (Jl (S:=Ji j vw) ⟨vw,h.new hu1,fun _ h=>h⟩);have q0:((n:Int)-((next:Int)-1-(cov:Int))==0)=false:=by have:=hgd.wl;simp;omega
 have q00:¬(n:Int)-((next:Int)-1-(cov:Int))=0:=by have:=hgd.wl;omega
 have q4:¬1099511627776<(next:Int):=by omega
 have hn1:=hgd.n1;have hnx:1<=next:=by have:=hgd.wl;omega
 have H:=Y10 h hS hn hN hSN hroom hmx hmay hu1 hg1;have HW1:=qqh hw1;clear h hS hn hN hSN hroom hmay hu1 hg1 hw1 hgd;go_enter Tryz.func239,Tryz.ntmps239
 go_wp2_with fail
 rw[<-HW1.o];refine HRm.out.mono ?_;rintro e w2 ⟨rfl,hu2⟩;obtain⟨h,hS,hn,hN,hSN,hroom,-,hmay,hu1,hg1⟩:=H.o;have hu12:=hu1.trans hu2;have h2:=h.new hu12;have hg2:=hu2.blockv hg1;obtain⟨-,-,c2,-,c4,-⟩:=h2.c;obtain⟨m,hm⟩:=qqe (w.heap.size);have hjm:¬j=m:=by have:=zd h.str;omega
 rw[<-hm]at hg2;have b0:w2.cell? ⟨m,0,none⟩=some (.int .i64 a0):=za hg2 0;have b1:w2.cell? ⟨m,1,none⟩=some (.int .i64 a1):=za hg2 1;have f0:=zf hg2 0;have f1:=zf hg2 1;have H2:=Y4 h2 hg2 hu12 hm;have r1:IntKind.i64.wrap ((next:Int)-1)=(next:Int)-1:=qxv _ (by omega);obtain⟨lp,hlp⟩:=qqe ((next-1)/n);have hlp1:lp<=next-1:=by rw[hlp];exact Nat.div_le_self _ _
 have r2:IntKind.i64.wrap (((next:Int)-1).tdiv (n:Int))=(lp:Int):=by
  rw[show(next:Int)-1=((next-1:Nat):Int) by omega,<-Int.ofNat_tdiv,<-hlp];exact qxv _ (by omega)
 have hn0:¬n=0:=by omega
 have g21:=zh hg2 0 (.int .i64 (next:Int));have b11:(w2.setCell ⟨m,0,none⟩ (.int .i64 (next:Int))).cell? ⟨m,1,none⟩=some (.int .i64 a1):=za g21 1;have f11:=zf g21 1;have HLp:=qqh hlp;have hu21:=zi w2 m 0 (.int .i64 (next:Int));have H21:=Y2 g21 hu21;rw[<-hm];clear hlp hlp1 g21 hu21;clear h hS hn hN hSN hroom hmay hu1 hg1 hu12 h2 hg2 hu2 hm HRm;go_upto_region 7 with fail
 refine qZj (S:=fun W=>W.cell? ⟨j,2,none⟩=some (.int .i64 (n:Int))/\W.cell? ⟨j,4,none⟩=some (.int .i64 (next:Int))) (by kernel_rfl) (by(simp only[qYo]);exact⟨c2,c4⟩) (fun hHeld=>?_);refine Wl.i [0,1,2,3,4,5,6,7,8,9,10,11,12,13,14] ?_;iterate 15 refine Wl.t hHeld ?_
 refine Wl.o ?_;refine Wl.r 15 (fun K hK=>?_);go_simp
 refine hK.o _ _ (⟨zq hHeld.1 (fun e=>hjm e.symm),zq hHeld.2 (fun e=>hjm e.symm)⟩) (fun hH1=>?_);clear hK K;refine Wl.i [16] (Wl.t hH1 (Wl.o ?_));refine Wl.r 17 (fun K hK=>?_);go_simp
 refine hK.o _ _ (⟨zq hH1.1 (fun e=>hjm e.symm),zq hH1.2 (fun e=>hjm e.symm)⟩) (fun hH2=>?_);clear hK K;refine Wl.d ?_;clear hHeld hH1 hH2 c2 c4 b0 b1 f0 f1 r1 r2 hn0 b11 f11;obtain⟨w3,hw3⟩:=qqe (((w2.setCell ⟨m,0,none⟩ (.int .i64 (next:Int))).setCell ⟨m,1,none⟩ (.int .i64 (lp:Int))).drew);rw[<-hw3];have hu3:Upd (fun k=>k=m) w2 w3:=by rw[hw3];exact(H21.o.2.trans (zi _ m 1 _)).drew
 have hg3:w3.heap[m]?=some (.cells (recC (next:Int) (lp:Int) op block slot db sum).toArray 101 (0,0)):=by
  rw[hw3];exact(((uur (fun _=>False) _).drew).blockv (zh H21.o.1 1 (.int .i64 (lp:Int)))).trans (by simp)
 obtain⟨h,hS,hn,hN,hSN,hroom,-,hmay,hu1,hg1⟩:=H.o;obtain⟨h2,hg2,hu12,hm⟩:=H2.o;have hjs:∀k,Ji j vw k->¬k=m:=fun k hk e=>by have:=h.slt k hk;omega
 have h3:=h2.keep hu3 hjs;have hN3:Nib w3:=(hN.keep hu12 (fun h=>h)).keep hu3 (fun e=>by have:=hN.lt;omega);obtain⟨y,hy⟩:=qqe (sectR (recX (next:Int) (lp:Int) op block slot db sum));have hyl:y.length=64:=by rw[hy];exact rD rfl
 have HP:=qqh (Tj hN3 (recC (next:Int) (lp:Int) op block slot db sum) rfl (recX (next:Int) (lp:Int) op block slot db sum) rfl (fun W=>AA _ _ _ _ _ _ _ W));have hmay':mayR (recX (next:Int) (lp:Int) op block slot db sum)=true:=by rw[HLp.out];exact hmay
 have rX:=zg hg3;have H3:=Y7 h3 hg3 hu3 hjs hmay' hy hyl;clear h hS hn hN hSN hroom hmay hu1 hg1 h2 hg2 hu12 hm hjs h3 hN3 hmay' hy hw3 hu3 hg3;go_wp2_with (first
  |(refine qZg rfl _ _ rfl _ _ rfl _ _ rX Tryz.underlying101 rfl (by rw[show(recC (next:Int) (lp:Int) op block slot db sum).length=7 from rfl];exact infoThR) ?_)
  |fail)
 refine HP.o.mono ?_;rintro e w4 ⟨he,hb4⟩;obtain rfl:e=.returned (.tuple #[.agg (bkC y).toArray,.int .i64 0]):=by
  rcases he with⟨-,he⟩|⟨hf,-⟩
  .rw [he,H3.o.2.2.2.2.2.1]
  .rw [H3.o.2.2.2.2.1]at hf;cases hf
 have hu4:=qqb hb4;obtain⟨w5,hw5⟩:=qqe (w4.alloc (.cells (bkC y).toArray 54));have hu5:Upd (fun _=>False) w4 w5:=by rw[hw5];exact(uur _ w4).alloc _
 have hg5:w5.heap[w4.heap.size]?=some (.cells (bkC y).toArray 54 (0,0)):=by rw[hw5];exact zc w4 _ rfl
 have hu35:=hu4.trans hu5;have h5:=H3.o.1.new hu35;have hyl:=H3.o.2.2.2.2.2.2;have siY:=qqh (zt y hyl);have oneY:=qqh (zv y);have lnY:Hid ((bkC y).length=64):=by show _=_;rw[zo,hyl]
 obtain⟨i,z,hi,hz,hzs,hsz,hby⟩:=xK;have hu:Upd (fun _=>False) w5 (w5.alloc (.cells (wrC (next:Int) y).toArray 289)).drew:=((uur _ _).alloc _).drew;have hd:=h5.new hu;have hrd:Rd (w5.alloc (.cells (wrC (next:Int) y).toArray 289)).drew 65 (.slice (some ⟨w5.heap.size,0,none⟩) 1 1) 1 (wrC (next:Int) y):=
  Rd.keep (Rd.fresh w5 (wrC (next:Int) y) 289 1 (by rw[wrC_len,hyl]) (by unfold maxLen;omega)) ((uur (fun _=>False) _).drew) (fun _ _ h=>h)
 have hWl:W.length<=1024:=by have:=H.o.1.good;have:=this.wl;have:=H.o.2.2.2.2.2.1;omega
 obtain⟨v',w6,hrun,hs1,hu6,hbf⟩:=yj 274 274 i z 72 Tryz.underlying274 hi hz hsz hby hzs (by decide) hd.ws hrd (vF (next:Int) y) (by unfold maxLen;omega) (by omega);rw[<-ZH]at hs1;have hln:W.length+1=(W++[(next,y)]).length:=by simp
 rw[hln]at hs1;obtain⟨ao1,c1',rfl⟩:=hs1.rd.nil_iff;have hstr6:=(hu6.block j (zd hd.str) (fun e=>hd.wb e)).trans hd.str;have k5:=za hstr6 5;have z5:=zf hstr6 5;have k4:=za hstr6 4;simp at k4 k5;obtain⟨-,-,-,-,c4,c5⟩:=h5.c;have hg5m:=hu35.blockv H3.o.2.1;have rY:=zg hg5;have hbl:=Vv (next:Int) y hyl;have hut:=Tryz.underlying54;have hsi:=zt y hyl;have hlx:(bkC y).length=64:=by rw[zo,hyl]
 have h1x:=zv y;obtain⟨p6,hp6⟩:=qqe (w4.heap.size);rw[<-hp6]at rY hg5;have hvlt:∀g,vw.ownBlock=some g->g<w.heap.size:=fun g hg=>H.o.1.ws.lt hg;have hmw:=H2.o.2.2.2;have hsz4:w.heap.size<w4.heap.size:=by
  have h1:=zd H3.o.2.1;have h2:=hu4.size;omega
 have q4:=hu6.cellv (zm c4 _) (fun e=>hd.wb e);have qY:=hu6.range (qYp rY _) (fun e=>by have:=hvlt _ e;omega);have hjp:¬j=p6:=by have:=zd H.o.1.str;omega
 have d5:=zm c5 (.cells (wrC (next:Int) y).toArray 289);have n4:=World.new_ne w5 _ c5;have HX:=Y9 hbf hu hu6 hs1 hstr6 hu35 hg5m hvlt hsz4;have HW5:=qqh hw5;have HP6:=qqh hp6;clear hbf hu hu6 hs1 hstr6 hu35 hg5m hvlt hsz4 hd hrd hb4 he hu4 hu5 h5 hw5 rX hln hmw hp6 hWl;go_wp2_with (first
  |(refine zk rfl _ _ _ rfl _ _ _ rfl rfl (by rw[lnY.out];rfl) siY.out oneY.out ?_)
  |fail)
 rw[<-HW5.o,<-HP6.o];refine qZj (S:=fun W=>W.cell? ⟨j,4,none⟩=some (.int .i64 (next:Int))/\W.rangeAt p6 0 (bkC y)) (by kernel_rfl) (⟨by rw[qYo];exact c4,by rw[qYq];exact rY⟩) (fun hHeld=>?_);refine Wl.i [0,1,2,3,5,6,7,8] ?_;iterate 8 refine Wl.t hHeld ?_
 refine Wl.o ?_;refine Wl.l 9 (fun w h=>h.2) hut hsi hHeld ?_;refine Wl.i [10] (Wl.t hHeld (Wl.o ?_));refine qZe (rs:=[4,11]) (by kernel_rfl) (by simp) ?_;refine qxb rfl (fun K hK=>?_) (qxb rfl (fun K hK=>?_) qxc)
 .go_simp
  refine hK.o _ _ ((by(go_split_ands;(simp only[qYq,qYo]at*);((repeat' constructor)<;>first|assumption|(apply zm;assumption)|(refine zq ?_ ?_<;>assumption)|(refine zE ?_ ?_<;>assumption)|(apply qYp;assumption)|(apply qYt;assumption))))) (fun hH1=>?_);clear hK K;refine Wl.r 11 (fun K hK=>?_);go_simp
  refine hK.o _ _ ((by(go_split_ands;(simp only[qYq,qYo]at*);((repeat' constructor)<;>first|assumption|(apply zm;assumption)|(refine zq ?_ ?_<;>assumption)|(refine zE ?_ ?_<;>assumption)|(apply qYp;assumption)|(apply qYt;assumption))))) (fun hH2=>?_);clear hK K;refine Wl.r 12 (fun K hK=>?_);refine zJ rfl _ _ _ rfl rfl rfl hrun ?_;refine hK.o _ _ (⟨q4,qY⟩) (fun hH3=>?_);clear hK K;refine Wl.i [13,14] ?_;iterate 2 refine Wl.t hH3 ?_
  refine Wl.o ?_;refine Wl.r 15 (fun K hK=>?_);go_simp
  refine hK.o _ _ (⟨wC hH3.1 (by decide),zE hH3.2 hjp⟩) (fun _=>?_);clear hK K;refine Wl.d ?_;clear hH1 hH2 hH3 hHeld k5 z5 c4 c5 rY hbl hut hsi hlx h1x q4 qY d5 n4 hrun k4 hyl;obtain⟨hbf,hu,hu6,hs1,hstr6,hu35,hg5m,hvlt,hsz4⟩:=HX.o;have hl':(W++[(next,y)]).length=W.length+1:=by simp
  rw[hl']at hs1 hbf;obtain⟨u,hu0⟩:∃u:Value,u=.slice ao1 (W.length+1) c1':=⟨_,rfl⟩
  rw[<-hu0]at hs1 hbf;obtain⟨w7,hw7⟩:=qqe (w6.setCell ⟨j,5,none⟩ (.slice ao1 (W.length+1) c1'));rw[<-hw7];have hu7:Upd (fun k=>k=j) w6 w7:=by rw[hw7];exact zi _ _ _ _
  have g7:w7.heap[j]?=some (.cells #[.pointer (some ⟨d,0,none⟩),.int .i64 base,.int .i64 n,.int .i64 cov,.int .i64 next,u] 276 (0,0)):=by rw[hw7,hu0];exact(zh hstr6 5 _).trans (by simp)
  have d4:w7.cell? ⟨j,4,none⟩=some (.int .i64 (next:Int)):=za g7 4;have z4:=zf g7 4;have hnm:¬m=j:=fun e=>hjm e.symm;have hg7m:=(hu7.block m (qXy (zd hg5m) (qXx hu.size hu6.size)) hnm).trans ((hu6.block m (qXy (zd hg5m) hu.size) (fun e=>by have:=hvlt m e;have:=H2.o.2.2.2;omega)).trans (hu.blockv hg5m));have m0:(w7.setCell ⟨j,4,none⟩ (.int .i64 ((next:Int)+1))).cell? ⟨m,0,none⟩=some (.int .i64 (next:Int)):=zq (za hg7m 0) (fun e=>hnm e.symm);have r1:IntKind.i64.wrap ((next:Int)+1)=(next:Int)+1:=qxv _ (by omega);have HY:=Y5 hs1 hbf hu7 g7 hu0;clear hbf hu hu6 hs1 hstr6 hu35 hg5m hvlt hsz4 hl' hu0 hw7 hu7 g7 hg7m hnm;go_wp2
  go_ret2
  obtain⟨hs1,hbf,hu7,g7,hu0⟩:=HY.o;obtain⟨-,hu,hu6,-,-,hu35,-,hvlt,hsz4⟩:=HX.o;obtain⟨h,hS,hn,-⟩:=H.o;have hU5:Upd S w w5:=((H2.o.2.2.1.mono (fun _ _ h=>h.elim)).trans (H3.o.2.2.1.mono (fun k _ e=>hn k (by rw[e,H2.o.2.2.2];exact qXv _)))).trans (hu35.mono (fun _ _ h=>h.elim));have hU6:Upd S w w6:=hU5.trans ((hu.mono (fun _ _ h=>h.elim)).trans (hu6.mono (fun k _ hk=>hS k (.inr hk))));have hub:u.ownBlock≠some j:=fun e=>by
   rcases hbf with h1|⟨g,h1,hle⟩
   .exact h.wb (by rw[<-h1];exact e)
   .rw [h1]at e;cases e;have:=zd h.str;have:=hU5.size;have:=hu.size;omega
  have hu8:Upd (fun k=>k=j) w7 (w7.setCell ⟨j,4,none⟩ (.int .i64 ((next:Int)+1))):=zi _ _ _ _;have hyy:sectR (jaddX next n op block slot db sum)=y:=by rw[H3.o.2.2.2.2.2.1,HLp.out]
  rw[hyy];refine⟨rfl,⟨u,⟨(zh g7 4 _).trans (by simp),?_,hub,h.good.add H.o.2.2.2.2.2.1 hmx H3.o.2.2.2.2.2.2⟩,?_⟩,hU6.trans ((hu7.trans hu8).mono (fun k _ e=>e▸hS j (.inl rfl)))⟩
  .rw [qzd];exact(hs1.keep_ne hu7 hub).keep_ne hu8 hub
  .rintro k (rfl|hk)
   .exact hS _ (.inl rfl)
   .rcases hbf with h1|⟨g,h1,hle⟩
    .exact hS _ (.inr (by rw[<-h1];exact hk))
    .rw [h1]at hk;cases hk;exact hn _ (by have:=hU5.size;have:=hu.size;omega)
 .go_simp
  refine hK.o _ _ ((by(go_split_ands;(simp only[qYq,qYo]at*);((repeat' constructor)<;>first|assumption|(apply zm;assumption)|(refine zq ?_ ?_<;>assumption)|(refine zE ?_ ?_<;>assumption)|(apply qYp;assumption)|(apply qYt;assumption))))) (fun hH1=>?_);clear hK K;refine Wl.r 4 (fun K hK=>?_);go_simp
  refine hK.o _ _ ((by(go_split_ands;(simp only[qYq,qYo]at*);((repeat' constructor)<;>first|assumption|(apply zm;assumption)|(refine zq ?_ ?_<;>assumption)|(refine zE ?_ ?_<;>assumption)|(apply qYp;assumption)|(apply qYt;assumption))))) (fun hH2=>?_);clear hK K;refine Wl.r 12 (fun K hK=>?_);refine zJ rfl _ _ _ rfl rfl rfl hrun ?_;refine hK.o _ _ (⟨q4,qY⟩) (fun hH3=>?_);clear hK K;refine Wl.i [13,14] ?_;iterate 2 refine Wl.t hH3 ?_
  refine Wl.o ?_;refine Wl.r 15 (fun K hK=>?_);go_simp
  refine hK.o _ _ (⟨wC hH3.1 (by decide),zE hH3.2 hjp⟩) (fun _=>?_);clear hK K;refine Wl.d ?_;clear hH1 hH2 hH3 hHeld k5 z5 c4 c5 rY hbl hut hsi hlx h1x q4 qY d5 n4 hrun k4 hyl;obtain⟨hbf,hu,hu6,hs1,hstr6,hu35,hg5m,hvlt,hsz4⟩:=HX.o;have hl':(W++[(next,y)]).length=W.length+1:=by simp
  rw[hl']at hs1 hbf;obtain⟨u,hu0⟩:∃u:Value,u=.slice ao1 (W.length+1) c1':=⟨_,rfl⟩
  rw[<-hu0]at hs1 hbf;obtain⟨w7,hw7⟩:=qqe (w6.setCell ⟨j,5,none⟩ (.slice ao1 (W.length+1) c1'));rw[<-hw7];have hu7:Upd (fun k=>k=j) w6 w7:=by rw[hw7];exact zi _ _ _ _
  have g7:w7.heap[j]?=some (.cells #[.pointer (some ⟨d,0,none⟩),.int .i64 base,.int .i64 n,.int .i64 cov,.int .i64 next,u] 276 (0,0)):=by rw[hw7,hu0];exact(zh hstr6 5 _).trans (by simp)
  have d4:w7.cell? ⟨j,4,none⟩=some (.int .i64 (next:Int)):=za g7 4;have z4:=zf g7 4;have hnm:¬m=j:=fun e=>hjm e.symm;have hg7m:=(hu7.block m (qXy (zd hg5m) (qXx hu.size hu6.size)) hnm).trans ((hu6.block m (qXy (zd hg5m) hu.size) (fun e=>by have:=hvlt m e;have:=H2.o.2.2.2;omega)).trans (hu.blockv hg5m));have m0:(w7.setCell ⟨j,4,none⟩ (.int .i64 ((next:Int)+1))).cell? ⟨m,0,none⟩=some (.int .i64 (next:Int)):=zq (za hg7m 0) (fun e=>hnm e.symm);have r1:IntKind.i64.wrap ((next:Int)+1)=(next:Int)+1:=qxv _ (by omega);have HY:=Y5 hs1 hbf hu7 g7 hu0;clear hbf hu hu6 hs1 hstr6 hu35 hg5m hvlt hsz4 hl' hu0 hw7 hu7 g7 hg7m hnm;go_wp2
  go_ret2
  obtain⟨hs1,hbf,hu7,g7,hu0⟩:=HY.o;obtain⟨-,hu,hu6,-,-,hu35,-,hvlt,hsz4⟩:=HX.o;obtain⟨h,hS,hn,-⟩:=H.o;have hU5:Upd S w w5:=((H2.o.2.2.1.mono (fun _ _ h=>h.elim)).trans (H3.o.2.2.1.mono (fun k _ e=>hn k (by rw[e,H2.o.2.2.2];exact qXv _)))).trans (hu35.mono (fun _ _ h=>h.elim));have hU6:Upd S w w6:=hU5.trans ((hu.mono (fun _ _ h=>h.elim)).trans (hu6.mono (fun k _ hk=>hS k (.inr hk))));have hub:u.ownBlock≠some j:=fun e=>by
   rcases hbf with h1|⟨g,h1,hle⟩
   .exact h.wb (by rw[<-h1];exact e)
   .rw [h1]at e;cases e;have:=zd h.str;have:=hU5.size;have:=hu.size;omega
  have hu8:Upd (fun k=>k=j) w7 (w7.setCell ⟨j,4,none⟩ (.int .i64 ((next:Int)+1))):=zi _ _ _ _;have hyy:sectR (jaddX next n op block slot db sum)=y:=by rw[H3.o.2.2.2.2.2.1,HLp.out]
  rw[hyy];refine⟨rfl,⟨u,⟨(zh g7 4 _).trans (by simp),?_,hub,h.good.add H.o.2.2.2.2.2.1 hmx H3.o.2.2.2.2.2.2⟩,?_⟩,hU6.trans ((hu7.trans hu8).mono (fun k _ e=>e▸hS j (.inl rfl)))⟩
  .rw [qzd];exact(hs1.keep_ne hu7 hub).keep_ne hu8 hub
  .rintro k (rfl|hk)
   .exact hS _ (.inl rfl)
   .rcases hbf with h1|⟨g,h1,hle⟩
    .exact hS _ (.inr (by rw[<-h1];exact hk))
    .rw [h1]at hk;cases hk;exact hn _ (by have:=hU5.size;have:=hu.size;omega)
end Go.Proofs.YtfhfbpmlnjdfoaaGreatDoor
