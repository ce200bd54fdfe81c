/- What a sector -/
import Derived.Test.YtbnpkobbnjihjaaGreatDoorG14
import Derived.Test.YtbnpkobbnjihjaaGreatDoorG15
import Derived.Test.YtbnpkobbnjihjaaGreatDoorG16
set_option maxRecDepth 100000
set_option maxHeartbeats 2000000
namespace Go.Proofs.YtbnpkobbnjihjaaGreatDoor
open Go Go.RowKit Tryz
variable{w:World}
theorem wQ{P:Prop}(h:P:=by
 have H:=Y6 hs hN hmay hbuild hss hm;have HC:=Y3 hds hd1 hb;clear hs hN hmay hbuild hss hm hds hd1 hb;have hr:((w.alloc (.cells #[.int .i64 (k:Int),.slice (some ⟨gs,0,none⟩) m cl,tv,.func (.func fm) #[] cm,.func (.func fb) #[] cb] n1a)).alloc (.cells (bkC b).toArray 54)).rangeAt (w.heap.size+1) 0 (bkC b):=zf (zc _ _ oe);go_enter q2a,q3a
 go_wp2_with (first
  |(refine qZa rfl _ _ rfl _ _ rfl _ _ (qYj (qYj hr _) _) underlying54 rfl (zv _ HC.o.2.2) ?_)
  |fail)
 show Calls _ _ _ ((((w.alloc (.cells #[.int .i64 (k:Int),.slice (some ⟨gs,0,none⟩) m cl,tv,.func (.func fm) #[] cm,.func (.func fb) #[] cb] n1a)).alloc (.cells (bkC b).toArray 54)).alloc (.cells d4a.toArray n5a)).alloc (.cells d4a.toArray n5a)) _;obtain⟨Z,hZ⟩:∃Z:List Value,Z=d4a:=⟨_,rfl⟩
 rw[<-hZ];have hZs:Hid (Z.toArray.size=n6a):=by show _=_;rw[hZ];rfl
 have hZl:Hid (Z.length=n6a):=by show _=_;rw[hZ];rfl
 have hsZ:Hid ((prog.info? n5a).map (·.size)=some Z.length):=by show _=_;rw[hZ];exact q7a
 have hsA:Hid ((prog.info? n5a).map (·.size)=some Z.toArray.size):=by show _=_;rw[hZ];exact q7a
 have hZ1:Hid ((Z.toArray).all (·.oneCell')=true):=by show _=_;rw[hZ];exact q8a
 have HZ:=qqh hZ;clear hZ;obtain⟨h1,h2,h3,h4,h5,h6⟩:=xS w (.cells #[.int .i64 (k:Int),.slice (some ⟨gs,0,none⟩) m cl,tv,.func (.func fm) #[] cm,.func (.func fb) #[] cb] n1a) (.cells (bkC b).toArray 54) (.cells Z.toArray n5a) (.cells Z.toArray n5a);clear hr;generalize (((w.alloc (.cells #[.int .i64 (k:Int),.slice (some ⟨gs,0,none⟩) m cl,tv,.func (.func fm) #[] cm,.func (.func fb) #[] cb] n1a)).alloc (.cells (bkC b).toArray 54)).alloc (.cells Z.toArray n5a)).alloc (.cells Z.toArray n5a)=w4 at*;refine(WW b HC.o.2.2 (H.o.2.1.keep h6 id)).mono ?_;rintro e w5 ⟨rfl,hb5⟩;have hu5:=qqb hb5;have g1:=(hu5.block _ (zd h1) id).trans h1;have g2:=(hu5.block _ (zd h2) id).trans h2;have g3:=(hu5.block _ (zd h3) id).trans h3;have g4:=(hu5.block _ (zd h4) id).trans h4;have hz5:=hu5.size;have H5:=Y7 g1 g2 g3 g4 (h6.trans hu5) h5 hz5;clear h1 h2 h3 h4 h5 h6 g1 g2 g3 g4 hu5 hb5 hz5;by_cases hsl:sealB b=b
 .have hsc:sealedC b=0:=if_pos hsl;rw[hsc];clear hsc;have HS:=qqh hsl;clear hsl;obtain⟨g1,g2,g3,g4,u5,z4,z5⟩:=H5.o;have r5:=zf g2;clear g1 g2 g3 g4 u5;go_wp2_with (first
   |(refine qZa rfl _ _ rfl _ _ rfl _ _ r5 underlying54 rfl (zv _ HC.o.2.2) ?_)
   |fail)
  refine(zeT b HC.o.2.2).mono ?_;rintro e w6 ⟨g,rfl,hR6,hge,hb6⟩;have HX:=Y2 hR6 hb6;clear hR6 hb6;go_wp2_with fail
  refine(zbW HX.o.1 1 de de de).mono ?_;rintro e w7 ⟨rfl,hR7,hU7⟩;obtain⟨kb,hkb⟩:=qqe (numB ((b.drop 0).take 1));rw[<-hkb];have HK:=qqh hkb;clear hkb;obtain⟨g1,g2,g3,g4,u5,z4,z5⟩:=H5.o;obtain⟨hs,hN,-,-,hss,hm⟩:=H.o;have u57:Upd (fun j=>j=g) w5 w7:=((uuo (S:=fun _=>False) HX.o.2).mono fE).trans hU7;have u7:Upd (fun j=>j=g) w w7:=(u5.mono fE).trans u57;have hM7:w.heap.size+4<=w7.heap.size:=by have:=u57.size;omega
  have gM:w.heap.size+4<=g:=oM;have m1:w7.cell? ⟨w.heap.size,1,none⟩=some (.slice (some ⟨gs,0,none⟩) m cl):=u57.jU (za g1 1) oM;have a1:=(u57.block _ (zd g1) oM).trans g1;have a3:=(u57.block _ (zd g3) oM).trans g3;have a4:=(u57.block _ (zd g4) oM).trans g4;have gslt:gs<w.heap.size\/m=0:=by
   rcases qXn m with h|h
   .exact .inr h
   .exact .inl (qYh w _ (hs 0 _ (sU oM)))
  have hs7:∀i (hi:i<ss.length),w7.cell? ⟨gs,i,none⟩=some (.int .i64 (ss[i]:Int)):=fun i hi=>by
   have:=u7.jU (hs i _ (sU hi)) oM
   rwa[qXy]at this
  have hua:Upd (fun _=>False) w7 (w7.alloc (.cells (ints (List.replicate m 0)).toArray 3)):=(uur _ _).alloc _;have hgL:=zc w7 (.cells (ints (List.replicate m 0)).toArray 3) rfl;have hmk:=Xj m oM w7;have hR8:=hR7.keep hua id;have hglt:=hR7.lt;have m18:(w7.alloc (.cells (ints (List.replicate m 0)).toArray 3)).cell? ⟨w.heap.size,1,none⟩=some (.slice (some ⟨gs,0,none⟩) m cl):=hua.jU m1 id;have H8:=Y12 hua hgL hR8 a1 a3 a4 hs7 gslt u7 hss hm hN;clear g1 g2 g3 g4 u5 z4 hs hN hss hm u57 u7 a1 a3 a4 gslt hs7 hua hgL hR8 hU7 hR7 r5 z5;go_wp2
  clear hmk m1;generalize hW8:w7.alloc (.cells (ints (List.replicate m 0)).toArray 3)=w8 at*;have HW8:=qqh hW8;clear hW8;generalize hL:w7.heap.size=L at*;have HL:=qqh hL;clear hL;go_loopw[30] (fun s30 wr=>∃i:Nat,i<=m/\s30=.int .i64 i/\yR wr g b (1+(ss.take i).sum)/\wr.heap[L]?=some (.cells (ints (fillI (numsAt b 1 ss) i)).toArray 3 (0,0))/\Upd (fun j=>j=g\/j=L) w8 wr) (fun s30 _=>m-(intOf s30).toNat)
  case atStart=>exact⟨0,qXz _,rfl,by simpa using H8.o.2.2.1,by rw[H8.o.2.1];simp[fillI,natsI,zR,H8.o.2.2.2.2.2.2.2.2.2.2.1],uur _ _⟩
  case round=>
   obtain⟨i,hi,rfl,hR,hL,hu⟩:=hrel;obtain⟨hua,hgL,hR8,a1,a3,a4,hs7,gslt,u7,hss,hm,hN⟩:=H8.o;by_cases hlt:i<m
   .have hil:i<ss.length:=oM;have x1:wr.cell? ⟨gs,i,none⟩=some (.int .i64 (ss[i]:Int)):=hu.jU (hua.jU (hs7 i hil) id) oM;have hsi:=hss.1 ss[i] (qyu hil);obtain⟨t1,t2⟩:=Se ss hil;have hng:¬L=g:=oM;have hcx:∃v,wr.cell? ⟨L,i,none⟩=some v:=by
     rw[za hL];exact⟨_,qxe (by rw[qXh,xl,TW _ (by rw[zR];omega),zR];omega)⟩
    have hnx:Hid ((ints (fillI (numsAt b 1 ss) i)).toArray.setIfInBounds i (.int .i64 ((numB ((b.drop (1+(ss.take i).sum)).take ss[i]):Nat):Int))=(ints (fillI (numsAt b 1 ss) (i+1))).toArray):=by
     show _=_;rw[qXd,Xk,<-Vc b 1 ss i hil,TX _ (by rw[zR];exact hil)]
    have hsum:Hid (1+(ss.take (i+1)).sum=1+(ss.take i).sum+ss[i]):=by show _=_;omega
    have b1:(0:Int)<=(i:Int)/\(i:Int)<(m:Int):=oM;have hbd:1+(ss.take i).sum+ss[i]<=60:=oM;have HX2:=Y6 hR hL hu hsi hbd hcx;clear hua hgL hR8 a1 a3 a4 hs7 gslt u7 hss hm hN t1 t2 hR hL hu hcx hbd hsi;obtain⟨b1,b2⟩:=b1;generalize ss[i]=si at*;go_wp2_with fail
    refine(zbW HX2.o.1 si HX2.o.2.2.2.1.1 HX2.o.2.2.2.1.2 HX2.o.2.2.2.2.1).mono ?_;rintro e w9 ⟨rfl,hR9,hU9⟩;have hL9:=(hU9.block L (zd HX2.o.2.1) hng).trans HX2.o.2.1;obtain⟨v0,hv0⟩:=HX2.o.2.2.2.2.2;have c9:=hU9.jU hv0 hng;have z9:=zg hL9 i;have hL10:=zh hL9 i (.int .i64 ((numB ((b.drop (1+(ss.take i).sum)).take si):Nat):Int));rw[hnx.out]at hL10;have hR10:=hR9.keep (zi w9 L i (.int .i64 ((numB ((b.drop (1+(ss.take i).sum)).take si):Nat):Int))) (fun e=>hng e.symm);rw[<-hsum.out]at hR10;have hU10:Upd (fun j=>j=g\/j=L) w8 (w9.setCell ⟨L,i,none⟩ (.int .i64 ((numB ((b.drop (1+(ss.take i).sum)).take si):Nat):Int))):=
     HX2.o.2.2.1.trans ((hU9.mono (fun _ _ h=> .inl h)).trans ((zi _ _ _ _).mono (fun _ _ h=> .inr h)))
    have HZ:=Y3 hR10 hL10 hU10;clear hL9 hv0 hL10 hR10 hU10 hU9 hR9;go_wp2
    go_roundw
    case rel=>exact⟨i+1,oM,by go_num,HZ.o.1,HZ.o.2.1,HZ.o.2.2⟩
    case measure=>simp[intOf];omega
   .obtain rfl:i=m:=oM;rw[qXj oM]at hR;have hl5:i=(numsAt b 1 ss).length:=by rw[zR];omega
    rw[show fillI (numsAt b 1 ss) i=natsI (numsAt b 1 ss) by rw[hl5];exact TY _]at hL;clear hl5;have u8r:Upd (fun j=>j=g\/j=L) w7 wr:=(hua.mono fE).trans hu;have hLw:w.heap.size+4<=L:=hM7;have hlw:Below w.heap.size w wr:=by
     refine zj (zj (qxl _ w) u7 (qXp _) (fun k e=>oM)) u8r (qXp _) (fun k e=>oM)
    have e1:=(u8r.block _ (zd a1) oM).trans a1;have e3:=(u8r.block _ (zd a3) oM).trans a3;have e4:=(u8r.block _ (zd a4) oM).trans a4;have hErr:∀W,Below wr.heap.size wr W->W.rangeAt (w.heap.size+1+1+1) 0 Z/\W.there (w.heap.size+1+1) 0 n6a/\Below w.heap.size w W:=fun W hW=>by
     have f3:=(hW.block _ (zd e3)).trans e3;refine⟨zf ((hW.block _ (zd e4)).trans e4),fun j hj=>?_,hlw.trans (hW.mono hlw.size)⟩;rw[za f3,zg f3];exact⟨by rw[qXy,qxe (by have:=hZl.out;simp;omega)];rfl,rfl⟩
    have m0:wr.cell? ⟨w.heap.size,0,none⟩=some (.int .i64 (k:Int)):=za e1 0;have m3:wr.cell? ⟨w.heap.size,3,none⟩=some (.func (.func fm) #[] cm):=za e1 3;have m4:wr.cell? ⟨w.heap.size,4,none⟩=some (.func (.func fb) #[] cb):=za e1 4;have HE:=Y6 hErr m3 m4 hR (zf hL) hlw;obtain⟨rz,tz,hbz⟩:=hErr wr (qxl _ _);clear hua hgL hR8 a1 a3 a4 hs7 gslt u7 hss hm hN hR hL hu u8r hlw e1 e3 e4 hErr m3 m4;by_cases hkk:kb=k
    .have hq:((kb:Int)==(k:Int))=true:=by rw[hkk];simp
     have hq2:((kb:Int) !=(k:Int))=false:=by rw[hkk];simp
     have HKK:=qqh hkk;clear hkk rz tz hbz;go_wp2_with fail
     refine(zgG HE.o.2.2.2.1).mono ?_;rintro e w10 ⟨rfl,hb10⟩;obtain⟨rz,tz,hbz⟩:=HE.o.1 w10 hb10;have m3:=(uuo (S:=fun _=>False) hb10).jU HE.o.2.1 id;have m4:=(uuo (S:=fun _=>False) hb10).jU HE.o.2.2.1 id;have rL:=Below.range hb10 HE.o.2.2.2.2.1;have H10:=Y3 hb10 rL m4;clear rL m4 hb10;have HBz:=qqh hbz;clear hbz;by_cases hen:endB b (1+ss.sum)=true
     .have he0:endC b (1+ss.sum)=0:=if_pos hen;rw[he0];clear he0 rz tz;have HEN:=qqh hen;clear hen;go_wp2_with fail
      refine(H.o.2.2.1 w10 L i rfl HBz.out H10.o.2.1).mono ?_;rintro e w11 ⟨rfl,hb11⟩;obtain⟨rz,tz,hbz11⟩:=HE.o.1 w11 (H10.o.1.trans (hb11.mono H10.o.1.size));have m4:=(uuo (S:=fun _=>False) hb11).jU H10.o.2.2 id;have rL:=Below.range hb11 H10.o.2.1;have HBz11:=qqh hbz11;have HRL:=qqh rL;have HBz11b:=qqh hb11;clear rL hbz11 hb11;cases mb with
      |true=>
       have HR:Hid (okGet b k ss true=true):=by
        show _=_;simp only[okGet,HS.o,HEN.o,decide_true,qxp,Bool.and_true,qYt];have:=HK.o;rw[qya]at this;rw[<-this,HKK.o]
       clear rz tz;go_wp2_with fail
       refine(H.o.2.2.2.1 HR.o w11 L i rfl HBz11.out HRL.o).mono ?_;rintro e w12 ⟨rfl,hb12⟩;obtain⟨-,tz,hbz12⟩:=HE.o.1 w12 ((H10.o.1.trans ((HBz11b.out).mono H10.o.1.size)).trans (hb12.mono (by have:=H10.o.1.size;have:=HBz11b.out.size;omega)));have hdl:ds.length=n6a:=by have h1:=HC.o.1;rw[q7a]at h1;injection h1 with h1;exact h1.symm
       have hst:w12.there (w.heap.size+1+1) 0 ds.toArray.size:=by rw[show ds.toArray.size=n6a by simpa using hdl];exact tz
       have hst2:w12.there (w.heap.size+1+1) 0 ds.length:=by rw[hdl];exact tz
       have hsz2:(prog.info? n5a).map (·.size)=some ds.toArray.size:=by rw[show ds.toArray.size=n6a by simpa using hdl];exact q7a
       have HST:=Y4 hst hsz2 hst2 hbz12;clear hst hsz2 hst2 hdl hbz12 tz hb12;go_wp2_with (first
        |(refine qZc rfl _ _ _ rfl _ _ ds.toArray rfl rfl HST.o.1 HST.o.2.1 (qYo HC.o.2.1) ?_)
        |fail)
       exact qYq (zp rfl _ _ (w.heap.size+1+1) 0 ds _ rfl (qYl _ _ _ _ HST.o.2.2.1) JP rfl HC.o.1) rfl
        ⟨⟨ds,fun _=>rfl,fun h=>jy,by rw[show xp b k ss true=0 from if_pos HR.o];rfl⟩,zj HST.o.2.2.2 (zo _ (w.heap.size+1+1) 0 _) (qXp _) (fun k e=>oM)⟩
      |false=>
       have HR:Hid (okGet b k ss false=false):=by show _=_;simp[okGet]
       go_wp2_with (first
        |(refine qZa rfl _ _ rfl _ _ rfl _ _ rz JP rfl hsZ.out ?_)
        |(refine qZc rfl _ _ _ rfl _ _ Z.toArray rfl rfl (by rw[hZs.out];exact tz) hsA.out hZ1.out ?_)
        |fail)
       exact qYq (zp rfl _ _ (w.heap.size+1+1) 0 Z _ rfl (qYl _ _ _ _ (by first|(rw[hZs.out];exact tz)|(rw[hZl.out];exact tz))) JP rfl hsZ.out) rfl
        ⟨⟨_,fun h=>jy,fun _=>rfl,by rw[qT HS.o HR.o,HZ.o];rfl⟩,zj HBz11.out (zo _ (w.heap.size+1+1) 0 _) (qXp _) (fun k e=>oM)⟩
     .have he0:endC b (1+ss.sum)=12:=if_neg hen;rw[he0];clear he0;have HR:Hid (okGet b k ss mb=false):=by show _=_;simp[okGet,hen]
      clear hen;go_wp2_with (first
       |(refine qZa rfl _ _ rfl _ _ rfl _ _ rz JP rfl hsZ.out ?_)
       |(refine qZc rfl _ _ _ rfl _ _ Z.toArray rfl rfl (by rw[hZs.out];exact tz) hsA.out hZ1.out ?_)
       |fail)
      exact qYq (zp rfl _ _ (w.heap.size+1+1) 0 Z _ rfl (qYl _ _ _ _ (by first|(rw[hZs.out];exact tz)|(rw[hZl.out];exact tz))) JP rfl hsZ.out) rfl
       ⟨⟨_,fun h=>jy,fun _=>rfl,by rw[qT HS.o HR.o,HZ.o];rfl⟩,zj HBz.out (zo _ (w.heap.size+1+1) 0 _) (qXp _) (fun k e=>oM)⟩
    .have hq:((kb:Int)==(k:Int))=false:=by rw[qYp];omega
     have hq2:((kb:Int) !=(k:Int))=true:=by rw[bne_iff_ne];omega
     have HR:Hid (okGet b k ss mb=false):=by
      show _=_;have:=HK.o;rw[qya]at this;simp[okGet,<-this,hkk]
     have HBz:=qqh hbz;clear hkk hbz;go_wp2_with (first
      |(refine qZa rfl _ _ rfl _ _ rfl _ _ rz JP rfl hsZ.out ?_)
      |(refine qZc rfl _ _ _ rfl _ _ Z.toArray rfl rfl (by rw[hZs.out];exact tz) hsA.out hZ1.out ?_)
      |fail)
     exact qYq (zp rfl _ _ (w.heap.size+1+1) 0 Z _ rfl (qYl _ _ _ _ (by first|(rw[hZs.out];exact tz)|(rw[hZl.out];exact tz))) JP rfl hsZ.out) rfl
      ⟨⟨_,fun h=>jy,fun _=>rfl,by rw[qT HS.o HR.o,HZ.o];rfl⟩,zj HBz.out (zo _ (w.heap.size+1+1) 0 _) (qXp _) (fun k e=>oM)⟩
 .have hsc:sealedC b=13:=if_neg hsl;have hres:=Vd (k:=k) (ss:=ss) (mb:=mb) hsl;rw[hsc];have HR:=qqh hres;clear hsc hsl hres;obtain⟨g1,g2,g3,g4,u5,z4,z5⟩:=H5.o;have r4:=zf g4;have hth:w5.there (w.heap.size+1+1) 0 n6a:=fun j hj=>by
   rw[za g3,zg g3];exact⟨by rw[qXy,qxe (by have:=hZl.out;simp;omega)];rfl,rfl⟩
  have HU:=qqh u5;clear g1 g2 g3 g4 u5 z4 z5;go_wp2_with (first
   |(refine qZa rfl _ _ rfl _ _ rfl _ _ r4 JP rfl hsZ.out ?_)
   |(refine qZc rfl _ _ _ rfl _ _ Z.toArray rfl rfl (by rw[hZs.out];exact hth) hsA.out hZ1.out ?_)
   |fail)
  refine qYq (zp rfl _ _ (w.heap.size+1+1) 0 Z _ rfl (qYl _ _ _ _ (by first|(rw[hZs.out];exact hth)|(rw[hZl.out];exact hth))) JP rfl hsZ.out) rfl
   ⟨⟨_,fun h=>(by rw[HR.o.1]at h;cases h),fun _=>rfl,by rw[HR.o.2,HZ.o];rfl⟩,zj (Upd.below HU.o) (zo w5 (w.heap.size+1+1) 0 _) (qXp _) (fun k e=>oM)⟩):P:=h
def qd:List Value:=[Value.int .i64 0,.int .i64 0,.int .i64 0,.int .i64 0,.int .i64 0,.bool false,.int .i64 0]
theorem Ym:(qd.toArray).all (·.oneCell')=true:=by simp[qd,Value.oneCell']
namespace fGetR
abbrev n1a:Nat:=382
theorem q2a:type_of% @func238:= @func238
theorem q3a:type_of% @ntmps238:= @ntmps238
abbrev d4a:= @qd
abbrev n5a:Nat:=273
abbrev n6a:Nat:=7
theorem q7a:type_of% @infoThR:= @infoThR
theorem q8a:type_of% @Ym:= @Ym
theorem JP:type_of% @underlying273:= @underlying273
end fGetR
open fGetR in
theorem JQ(b:Bk)(hb:b.length=64)(k:Nat)(ss:List Nat)(hss:(∀q∈ss,1<=q/\q<=7)/\ss.sum<=59)(m:Nat)(hm:ss.length=m)(s:m<=100)(gs cl:Nat)(fm fb:Nat)(cm cb:Array Value)(tv:Value)(mb:Bool)(ds:List Value)
  (hds:(prog.info? 273).map (·.size)=some ds.length) (hd1:∀v∈ds,v.oneCell'=true) (hs:w.rangeAt gs 0 (ints (natsI ss))) (hN:Nib w)
  (A:∀n w,(callFunc fm n).run prog w=.ok (.enter fm n) w) (entB:∀n w,(callFunc fb n).run prog w=.ok (.enter fb n) w)
  (hmay:∀W gl c,c=m->Below w.heap.size w W->W.rangeAt gl 0 (ints (natsI (numsAt b 1 ss)))->Calls prog fm (#[.slice (some ⟨gl,0,none⟩) m c]++cm) W fun e p=>e=.returned (.bool mb)/\Below W.heap.size W p)
  (hbuild:okGet b k ss mb=true->∀W gl c,c=m->Below w.heap.size w W->W.rangeAt gl 0 (ints (natsI (numsAt b 1 ss)))->Calls prog fb (#[.slice (some ⟨gl,0,none⟩) m c]++cb) W fun e p=>e=.returned (.agg ds.toArray)/\Below W.heap.size W p):
  Calls prog 238 #[.agg #[.int .i64 (k:Int),.slice (some ⟨gs,0,none⟩) m cl,tv,.func (.func fm) #[] cm,.func (.func fb) #[] cb],.agg (bkC b).toArray] w
   (vH w (okGet b k ss mb) ds qd (xp b k ss mb)):=wQ
def zeroS:List Value:=[Value.int .i64 0,.int .i64 0,.int .i64 0,.int .i64 0,.int .i64 0,.int .i64 0,.int .i64 0]
theorem rT:(zeroS.toArray).all (·.oneCell')=true:=by simp[zeroS,Value.oneCell']
namespace fGetS
abbrev n1a:Nat:=117
theorem q2a:type_of% @func171:= @func171
theorem q3a:type_of% @ntmps171:= @ntmps171
abbrev d4a:= @zeroS
abbrev n5a:Nat:=38
abbrev n6a:Nat:=7
theorem q7a:type_of% @yw:= @yw
theorem q8a:type_of% @rT:= @rT
theorem JP:type_of% @underlying38:= @underlying38
end fGetS
open fGetS in
theorem JR(b:Bk)(hb:b.length=64)(k:Nat)(ss:List Nat)(hss:(∀q∈ss,1<=q/\q<=7)/\ss.sum<=59)(m:Nat)(hm:ss.length=m)(s:m<=100)(gs cl:Nat)(fm fb:Nat)(cm cb:Array Value)(tv:Value)(mb:Bool)(ds:List Value)
  (hds:(prog.info? 38).map (·.size)=some ds.length) (hd1:∀v∈ds,v.oneCell'=true) (hs:w.rangeAt gs 0 (ints (natsI ss))) (hN:Nib w)
  (A:∀n w,(callFunc fm n).run prog w=.ok (.enter fm n) w) (entB:∀n w,(callFunc fb n).run prog w=.ok (.enter fb n) w)
  (hmay:∀W gl c,c=m->Below w.heap.size w W->W.rangeAt gl 0 (ints (natsI (numsAt b 1 ss)))->Calls prog fm (#[.slice (some ⟨gl,0,none⟩) m c]++cm) W fun e p=>e=.returned (.bool mb)/\Below W.heap.size W p)
  (hbuild:okGet b k ss mb=true->∀W gl c,c=m->Below w.heap.size w W->W.rangeAt gl 0 (ints (natsI (numsAt b 1 ss)))->Calls prog fb (#[.slice (some ⟨gl,0,none⟩) m c]++cb) W fun e p=>e=.returned (.agg ds.toArray)/\Below W.heap.size W p):
  Calls prog 171 #[.agg #[.int .i64 (k:Int),.slice (some ⟨gs,0,none⟩) m cl,tv,.func (.func fm) #[] cm,.func (.func fb) #[] cb],.agg (bkC b).toArray] w
   (vH w (okGet b k ss mb) ds zeroS (xp b k ss mb)):=wQ
def vZ:List Value:=[Value.int .i64 0,.int .i64 0,.int .i64 0,.int .i64 0,.int .i64 0,.int .i64 0,.bool false,.int .i64 0,.int .i64 0,.int .i64 0,.bool false,.int .i64 0,.int .i64 0,.int .i64 0,.bool false,.int .i64 0,.int .i64 0,.int .i64 0,.bool false,.int .i64 0]
theorem Yn:(vZ.toArray).all (·.oneCell')=true:=by simp[vZ,Value.oneCell']
namespace fGetP
abbrev n1a:Nat:=371
theorem q2a:type_of% @func375:= @func375
theorem q3a:type_of% @ntmps375:= @ntmps375
abbrev d4a:= @vZ
abbrev n5a:Nat:=263
abbrev n6a:Nat:=20
theorem q7a:type_of% @wK:= @wK
theorem q8a:type_of% @Yn:= @Yn
theorem JP:type_of% @underlying263:= @underlying263
end fGetP
open fGetP in
theorem JS(b:Bk)(hb:b.length=64)(k:Nat)(ss:List Nat)(hss:(∀q∈ss,1<=q/\q<=7)/\ss.sum<=59)(m:Nat)(hm:ss.length=m)(s:m<=100)(gs cl:Nat)(fm fb:Nat)(cm cb:Array Value)(tv:Value)(mb:Bool)(ds:List Value)
  (hds:(prog.info? 263).map (·.size)=some ds.length) (hd1:∀v∈ds,v.oneCell'=true) (hs:w.rangeAt gs 0 (ints (natsI ss))) (hN:Nib w)
  (A:∀n w,(callFunc fm n).run prog w=.ok (.enter fm n) w) (entB:∀n w,(callFunc fb n).run prog w=.ok (.enter fb n) w)
  (hmay:∀W gl c,c=m->Below w.heap.size w W->W.rangeAt gl 0 (ints (natsI (numsAt b 1 ss)))->Calls prog fm (#[.slice (some ⟨gl,0,none⟩) m c]++cm) W fun e p=>e=.returned (.bool mb)/\Below W.heap.size W p)
  (hbuild:okGet b k ss mb=true->∀W gl c,c=m->Below w.heap.size w W->W.rangeAt gl 0 (ints (natsI (numsAt b 1 ss)))->Calls prog fb (#[.slice (some ⟨gl,0,none⟩) m c]++cb) W fun e p=>e=.returned (.agg ds.toArray)/\Below W.heap.size W p):
  Calls prog 375 #[.agg #[.int .i64 (k:Int),.slice (some ⟨gs,0,none⟩) m cl,tv,.func (.func fm) #[] cm,.func (.func fb) #[] cb],.agg (bkC b).toArray] w
   (vH w (okGet b k ss mb) ds vZ (xp b k ss mb)):=wQ
end Go.Proofs.YtbnpkobbnjihjaaGreatDoor
