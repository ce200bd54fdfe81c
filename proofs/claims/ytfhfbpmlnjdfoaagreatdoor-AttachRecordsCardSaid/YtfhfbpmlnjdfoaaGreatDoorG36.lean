/- The page that a sector is. The page that a sec -/
import Derived.Test.YtfhfbpmlnjdfoaaGreatDoorG35
set_option maxRecDepth 100000
set_option maxHeartbeats 4000000
namespace Go.Proofs.YtfhfbpmlnjdfoaaGreatDoor
open Go Go.RowKit
def zeroP:List Value:=[Value.int .i64 0,.int .i64 0,.int .i64 0,.int .i64 0,.int .i64 0,.int .i64 0,.bool false,.int .i64 0,.int .i64 0,.int .i64 0,.bool false,.int .i64 0,.int .i64 0,.int .i64 0,.bool false,.int .i64 0,.int .i64 0,.int .i64 0,.bool false,.int .i64 0]
theorem zP_one:(zeroP.toArray).all (·.oneCell')=true:=by simp[zeroP,Value.oneCell']
theorem Qp{w:World}(b:Bk)(hb:b.length=64)(k:Nat)(ss:List Nat)(hss:(∀s∈ss,1<=s/\s<=7)/\ss.sum<=59)(m:Nat)(hm:ss.length=m)(hm2:m<=100)(gs cl:Nat)(fm fb:Nat)(cm cb:Array Value)(tv:Value)(mb:Bool)(ds:List Value)
  (hds:(Tryz.prog.info? 280).map (·.size)=some ds.length) (hd1:∀v∈ds,v.oneCell'=true) (hs:w.rangeAt gs 0 (ints (natsI ss))) (hN:Nib w)
  (entM:∀args w,(callFunc fm args).run Tryz.prog w=.ok (.enter fm args) w) (entB:∀args w,(callFunc fb args).run Tryz.prog w=.ok (.enter fb args) w)
  (hmay:∀W gl c,c=m->Below w.heap.size w W->W.rangeAt gl 0 (ints (natsI (numsAt b 1 ss)))->Calls Tryz.prog fm (#[.slice (some ⟨gl,0,none⟩) m c]++cm) W fun e W'=>e=.returned (.bool mb)/\Below W.heap.size W W')
  (hbuild:okGet b k ss mb=true->∀W gl c,c=m->Below w.heap.size w W->W.rangeAt gl 0 (ints (natsI (numsAt b 1 ss)))->Calls Tryz.prog fb (#[.slice (some ⟨gl,0,none⟩) m c]++cb) W fun e W'=>e=.returned (.agg ds.toArray)/\Below W.heap.size W W'):
  Calls Tryz.prog 245 #[.agg #[.int .i64 (k:Int),.slice (some ⟨gs,0,none⟩) m cl,tv,.func (.func fm) #[] cm,.func (.func fb) #[] cb],.agg (bkC b).toArray] w
   (wN w (okGet b k ss mb) ds zeroP (yK b k ss mb)):=by
 have H:=Y6 hs hN hmay hbuild hss hm;have HC:=Y3 hds hd1 hb;clear hs hN hmay hbuild hss hm hds hd1 hb;have hr:((w.alloc (.cells #[.int .i64 (k:Int),.slice (some ⟨gs,0,none⟩) m cl,tv,.func (.func fm) #[] cm,.func (.func fb) #[] cb] 380)).alloc (.cells (bkC b).toArray 54)).rangeAt (w.heap.size+1) 0 (bkC b):=zg (zc _ _ (by simp));go_enter Tryz.func245,Tryz.ntmps245
 go_wp2_with (first
  |(refine qZg rfl _ _ rfl _ _ rfl _ _ (qYp (qYp hr _) _) Tryz.underlying54 rfl (zt _ HC.o.2.2) ?_)
  |fail)
 show Calls _ _ _ ((((w.alloc (.cells #[.int .i64 (k:Int),.slice (some ⟨gs,0,none⟩) m cl,tv,.func (.func fm) #[] cm,.func (.func fb) #[] cb] 380)).alloc (.cells (bkC b).toArray 54)).alloc (.cells zeroP.toArray 280)).alloc (.cells zeroP.toArray 280)) _;obtain⟨Z,hZ⟩:∃Z:List Value,Z=zeroP:=⟨_,rfl⟩
 rw[<-hZ];have hZs:Hid (Z.toArray.size=20):=by show _=_;rw[hZ];rfl
 have hZl:Hid (Z.length=20):=by show _=_;rw[hZ];rfl
 have hsZ:Hid ((Tryz.prog.info? 280).map (·.size)=some Z.length):=by show _=_;rw[hZ];exact xi
 have hsA:Hid ((Tryz.prog.info? 280).map (·.size)=some Z.toArray.size):=by show _=_;rw[hZ];exact xi
 have hZ1:Hid ((Z.toArray).all (·.oneCell')=true):=by show _=_;rw[hZ];exact zP_one
 have HZ:=qqh hZ;clear hZ;obtain⟨h1,h2,h3,h4,h5,h6⟩:=xw w (.cells #[.int .i64 (k:Int),.slice (some ⟨gs,0,none⟩) m cl,tv,.func (.func fm) #[] cm,.func (.func fb) #[] cb] 380) (.cells (bkC b).toArray 54) (.cells Z.toArray 280) (.cells Z.toArray 280);clear hr;generalize (((w.alloc (.cells #[.int .i64 (k:Int),.slice (some ⟨gs,0,none⟩) m cl,tv,.func (.func fm) #[] cm,.func (.func fb) #[] cb] 380)).alloc (.cells (bkC b).toArray 54)).alloc (.cells Z.toArray 280)).alloc (.cells Z.toArray 280)=w4 at*;refine(vn b HC.o.2.2 (H.o.2.1.keep h6 (fun h=>h))).mono ?_;rintro e w5 ⟨rfl,hb5⟩;have hu5:=qqb hb5;have g1:=(hu5.block _ (zd h1) (fun h=>h)).trans h1;have g2:=(hu5.block _ (zd h2) (fun h=>h)).trans h2;have g3:=(hu5.block _ (zd h3) (fun h=>h)).trans h3;have g4:=(hu5.block _ (zd h4) (fun h=>h)).trans h4;have hz5:=hu5.size;have H5:=Y7 g1 g2 g3 g4 (h6.trans hu5) h5 hz5;clear h1 h2 h3 h4 h5 h6 g1 g2 g3 g4 hu5 hb5 hz5;by_cases hsl:sealB b=b
 .have hsc:sealedC b=0:=if_pos hsl;rw[hsc];clear hsc;have HS:=qqh hsl;clear hsl;obtain⟨g1,g2,g3,g4,u5,z4,z5⟩:=H5.o;have r5:=zg g2;clear g1 g2 g3 g4 u5;go_wp2_with (first
   |(refine qZg rfl _ _ rfl _ _ rfl _ _ r5 Tryz.underlying54 rfl (zt _ HC.o.2.2) ?_)
   |fail)
  refine(Tf b HC.o.2.2).mono ?_;rintro e w6 ⟨g,rfl,hR6,hge,hb6⟩;have HX:=Y2 hR6 hb6;clear hR6 hb6;go_wp2_with fail
  refine(rv HX.o.1 1 (by decide) (by decide) (by decide)).mono ?_;rintro e w7 ⟨rfl,hR7,hU7⟩;obtain⟨kb,hkb⟩:=qqe (numB ((b.drop 0).take 1));rw[<-hkb];have HK:=qqh hkb;clear hkb;obtain⟨g1,g2,g3,g4,u5,z4,z5⟩:=H5.o;obtain⟨hs,hN,-,-,hss,hm⟩:=H.o;have u57:Upd (fun j=>j=g) w5 w7:=((uuo (S:=fun _=>False) HX.o.2).mono (fun _ _ h=>h.elim)).trans hU7;have u7:Upd (fun j=>j=g) w w7:=(u5.mono (fun _ _ h=>h.elim)).trans u57;have hM7:w.heap.size+4<=w7.heap.size:=by have:=u57.size;omega
  have gM:w.heap.size+4<=g:=by omega
  have m1:w7.cell? ⟨w.heap.size,1,none⟩=some (.slice (some ⟨gs,0,none⟩) m cl):=u57.cellv (za g1 1) (by omega);have a1:=(u57.block _ (zd g1) (by omega)).trans g1;have a3:=(u57.block _ (zd g3) (by omega)).trans g3;have a4:=(u57.block _ (zd g4) (by omega)).trans g4;have gslt:gs<w.heap.size\/m=0:=by
   rcases qXt m with h|h
   .exact .inr h
   .exact .inl (qYn w _ (hs 0 _ (xp (by omega))))
  have hs7:∀i (hi:i<ss.length),w7.cell? ⟨gs,i,none⟩=some (.int .i64 (ss[i]:Int)):=fun i hi=>by
   have:=u7.cellv (hs i _ (xp hi)) (by omega)
   rwa[qYe]at this
  have hua:Upd (fun _=>False) w7 (w7.alloc (.cells (ints (List.replicate m 0)).toArray 3)):=(uur _ _).alloc _;have hgL:=zc w7 (.cells (ints (List.replicate m 0)).toArray 3) rfl;have hmk:=vR m (by omega) w7;have hR8:=hR7.keep hua (fun h=>h);have hglt:=hR7.lt;have m18:(w7.alloc (.cells (ints (List.replicate m 0)).toArray 3)).cell? ⟨w.heap.size,1,none⟩=some (.slice (some ⟨gs,0,none⟩) m cl):=hua.cellv m1 (fun h=>h);have H8:=Y12 hua hgL hR8 a1 a3 a4 hs7 gslt u7 hss hm hN;clear g1 g2 g3 g4 u5 z4 hs hN hss hm u57 u7 a1 a3 a4 gslt hs7 hua hgL hR8 hU7 hR7 r5 z5;go_wp2
  clear hmk m1;generalize hW8:w7.alloc (.cells (ints (List.replicate m 0)).toArray 3)=w8 at*;have HW8:=qqh hW8;clear hW8;generalize hL:w7.heap.size=L at*;have HL:=qqh hL;clear hL;go_loopw[30] (fun s30 wr=>∃i:Nat,i<=m/\s30=.int .i64 i/\yJ wr g b (1+(ss.take i).sum)/\wr.heap[L]?=some (.cells (ints (fillI (numsAt b 1 ss) i)).toArray 3 (0,0))/\Upd (fun j=>j=g\/j=L) w8 wr) (fun s30 _=>m-(intOf s30).toNat)
  case atStart=>exact⟨0,qYf _,rfl,by simpa using H8.o.2.2.1,by rw[H8.o.2.1];simp[fillI,natsI,zC,H8.o.2.2.2.2.2.2.2.2.2.2.1],uur _ _⟩
  case round=>
   obtain⟨i,hi,rfl,hR,hL,hu⟩:=hrel;obtain⟨hua,hgL,hR8,a1,a3,a4,hs7,gslt,u7,hss,hm,hN⟩:=H8.o;by_cases hlt:i<m
   .have hil:i<ss.length:=by omega
    have x1:wr.cell? ⟨gs,i,none⟩=some (.int .i64 (ss[i]:Int)):=hu.cellv (hua.cellv (hs7 i hil) (fun h=>h)) (by omega);have hsi:=hss.1 ss[i] (qyz hil);obtain⟨t1,t2⟩:=tV ss hil;have hng:¬L=g:=by omega
    have hcx:∃v,wr.cell? ⟨L,i,none⟩=some v:=by
     rw[za hL];exact⟨_,qxe (by rw[qXm,yq,uu _ (by rw[zC];omega),zC];omega)⟩
    have hnx:Hid ((ints (fillI (numsAt b 1 ss) i)).toArray.setIfInBounds i (.int .i64 ((numB ((b.drop (1+(ss.take i).sum)).take ss[i]):Nat):Int))=(ints (fillI (numsAt b 1 ss) (i+1))).toArray):=by
     show _=_;rw[qXi,vS,<-vr b 1 ss i hil,uv _ (by rw[zC];exact hil)]
    have hsum:Hid (1+(ss.take (i+1)).sum=1+(ss.take i).sum+ss[i]):=by show _=_;omega
    have b1:(0:Int)<=(i:Int)/\(i:Int)<(m:Int):=by omega
    have hbd:1+(ss.take i).sum+ss[i]<=60:=by omega
    have HX2:=Y6 hR hL hu hsi hbd hcx;clear hua hgL hR8 a1 a3 a4 hs7 gslt u7 hss hm hN t1 t2 hR hL hu hcx hbd hsi;obtain⟨b1,b2⟩:=b1;generalize ss[i]=si at*;go_wp2_with fail
    refine(rv HX2.o.1 si HX2.o.2.2.2.1.1 HX2.o.2.2.2.1.2 HX2.o.2.2.2.2.1).mono ?_;rintro e w9 ⟨rfl,hR9,hU9⟩;have hL9:=(hU9.block L (zd HX2.o.2.1) hng).trans HX2.o.2.1;obtain⟨v0,hv0⟩:=HX2.o.2.2.2.2.2;have c9:=hU9.cellv hv0 hng;have z9:=zf hL9 i;have hL10:=zh hL9 i (.int .i64 ((numB ((b.drop (1+(ss.take i).sum)).take si):Nat):Int));rw[hnx.out]at hL10;have hR10:=hR9.keep (zi w9 L i (.int .i64 ((numB ((b.drop (1+(ss.take i).sum)).take si):Nat):Int))) (fun e=>hng e.symm);rw[<-hsum.out]at hR10;have hU10:Upd (fun j=>j=g\/j=L) w8 (w9.setCell ⟨L,i,none⟩ (.int .i64 ((numB ((b.drop (1+(ss.take i).sum)).take si):Nat):Int))):=
     HX2.o.2.2.1.trans ((hU9.mono (fun _ _ h=> .inl h)).trans ((zi _ _ _ _).mono (fun _ _ h=> .inr h)))
    have HZ:=Y3 hR10 hL10 hU10;clear hL9 hv0 hL10 hR10 hU10 hU9 hR9;go_wp2
    go_roundw
    case rel=>exact⟨i+1,by omega,by go_num,HZ.o.1,HZ.o.2.1,HZ.o.2.2⟩
    case measure=>simp[intOf];omega
   .obtain rfl:i=m:=by omega
    rw[qXp (by omega)]at hR;have hl5:i=(numsAt b 1 ss).length:=by rw[zC];omega
    rw[show fillI (numsAt b 1 ss) i=natsI (numsAt b 1 ss) by rw[hl5];exact uw _]at hL;clear hl5;have u8r:Upd (fun j=>j=g\/j=L) w7 wr:=(hua.mono (fun _ _ h=>h.elim)).trans hu;have hLw:w.heap.size+4<=L:=hM7;have hlw:Below w.heap.size w wr:=by
     refine zj (zj (qxl _ w) u7 (qXv _) (fun k e=>by omega)) u8r (qXv _) (fun k e=>by omega)
    have e1:=(u8r.block _ (zd a1) (by omega)).trans a1;have e3:=(u8r.block _ (zd a3) (by omega)).trans a3;have e4:=(u8r.block _ (zd a4) (by omega)).trans a4;have hErr:∀W,Below wr.heap.size wr W->W.rangeAt (w.heap.size+1+1+1) 0 Z/\W.there (w.heap.size+1+1) 0 20/\Below w.heap.size w W:=fun W hW=>by
     have f3:=(hW.block _ (zd e3)).trans e3;refine⟨zg ((hW.block _ (zd e4)).trans e4),fun j hj=>?_,hlw.trans (hW.mono hlw.size)⟩;rw[za f3,zf f3];exact⟨by rw[qYe,qxe (by have:=hZl.out;simp;omega)];rfl,rfl⟩
    have m0:wr.cell? ⟨w.heap.size,0,none⟩=some (.int .i64 (k:Int)):=za e1 0;have m3:wr.cell? ⟨w.heap.size,3,none⟩=some (.func (.func fm) #[] cm):=za e1 3;have m4:wr.cell? ⟨w.heap.size,4,none⟩=some (.func (.func fb) #[] cb):=za e1 4;have HE:=Y6 hErr m3 m4 hR (zg hL) hlw;obtain⟨rz,tz,hbz⟩:=hErr wr (qxl _ _);clear hua hgL hR8 a1 a3 a4 hs7 gslt u7 hss hm hN hR hL hu u8r hlw e1 e3 e4 hErr m3 m4;by_cases hkk:kb=k
    .have hq:((kb:Int)==(k:Int))=true:=by rw[hkk];simp
     have hq2:((kb:Int) !=(k:Int))=false:=by rw[hkk];simp
     have HKK:=qqh hkk;clear hkk rz tz hbz;go_wp2_with fail
     refine(JG HE.o.2.2.2.1).mono ?_;rintro e w10 ⟨rfl,hb10⟩;obtain⟨rz,tz,hbz⟩:=HE.o.1 w10 hb10;have m3:=(uuo (S:=fun _=>False) hb10).cellv HE.o.2.1 (fun h=>h);have m4:=(uuo (S:=fun _=>False) hb10).cellv HE.o.2.2.1 (fun h=>h);have rL:=Below.range hb10 HE.o.2.2.2.2.1;have H10:=Y3 hb10 rL m4;clear rL m4 hb10;have HBz:=qqh hbz;clear hbz;by_cases hen:endB b (1+ss.sum)=true
     .have he0:endC b (1+ss.sum)=0:=if_pos hen;rw[he0];clear he0 rz tz;have HEN:=qqh hen;clear hen;go_wp2_with fail
      refine(H.o.2.2.1 w10 L i rfl HBz.out H10.o.2.1).mono ?_;rintro e w11 ⟨rfl,hb11⟩;obtain⟨rz,tz,hbz11⟩:=HE.o.1 w11 (H10.o.1.trans (hb11.mono H10.o.1.size));have m4:=(uuo (S:=fun _=>False) hb11).cellv H10.o.2.2 (fun h=>h);have rL:=Below.range hb11 H10.o.2.1;have HBz11:=qqh hbz11;have HRL:=qqh rL;have HBz11b:=qqh hb11;clear rL hbz11 hb11;cases mb with
      |true=>
       have HR:Hid (okGet b k ss true=true):=by
        show _=_;simp only[okGet,HS.o,HEN.o,decide_true,qxp,Bool.and_true,qYz];have:=HK.o;rw[qyc]at this;rw[<-this,HKK.o]
       clear rz tz;go_wp2_with fail
       refine(H.o.2.2.2.1 HR.o w11 L i rfl HBz11.out HRL.o).mono ?_;rintro e w12 ⟨rfl,hb12⟩;obtain⟨-,tz,hbz12⟩:=HE.o.1 w12 ((H10.o.1.trans ((HBz11b.out).mono H10.o.1.size)).trans (hb12.mono (by have:=H10.o.1.size;have:=HBz11b.out.size;omega)));have hdl:ds.length=20:=by have h1:=HC.o.1;rw[xi]at h1;injection h1 with h1;exact h1.symm
       have hst:w12.there (w.heap.size+1+1) 0 ds.toArray.size:=by rw[show ds.toArray.size=20 by simpa using hdl];exact tz
       have hst2:w12.there (w.heap.size+1+1) 0 ds.length:=by rw[hdl];exact tz
       have hsz2:(Tryz.prog.info? 280).map (·.size)=some ds.toArray.size:=by rw[show ds.toArray.size=20 by simpa using hdl];exact xi
       have HST:=Y4 hst hsz2 hst2 hbz12;clear hst hsz2 hst2 hdl hbz12 tz hb12;go_wp2_with (first
        |(refine qZi rfl _ _ _ rfl _ _ ds.toArray rfl rfl HST.o.1 HST.o.2.1 (qYu HC.o.2.1) ?_)
        |fail)
       exact qYw (zn rfl _ _ (w.heap.size+1+1) 0 ds _ rfl (qYr _ _ _ _ HST.o.2.2.1) Tryz.underlying280 rfl HC.o.1) rfl
        ⟨⟨ds,fun _=>rfl,fun h=>(by rw[HR.o]at h;cases h),by rw[show yK b k ss true=0 from if_pos HR.o];rfl⟩,zj HST.o.2.2.2 (zp _ (w.heap.size+1+1) 0 _) (qXv _) (fun k e=>by omega)⟩
      |false=>
       have HR:Hid (okGet b k ss false=false):=by show _=_;simp[okGet]
       go_wp2_with (first
        |(refine qZg rfl _ _ rfl _ _ rfl _ _ rz Tryz.underlying280 rfl hsZ.out ?_)
        |(refine qZi rfl _ _ _ rfl _ _ Z.toArray rfl rfl (by rw[hZs.out];exact tz) hsA.out hZ1.out ?_)
        |fail)
       exact qYw (zn rfl _ _ (w.heap.size+1+1) 0 Z _ rfl (qYr _ _ _ _ (by first|(rw[hZs.out];exact tz)|(rw[hZl.out];exact tz))) Tryz.underlying280 rfl hsZ.out) rfl
        ⟨⟨_,fun h=>(by rw[HR.o]at h;cases h),fun _=>rfl,by rw[yL HS.o HR.o,HZ.o];rfl⟩,zj HBz11.out (zp _ (w.heap.size+1+1) 0 _) (qXv _) (fun k e=>by omega)⟩
     .have he0:endC b (1+ss.sum)=12:=if_neg hen;rw[he0];clear he0;have HR:Hid (okGet b k ss mb=false):=by show _=_;simp[okGet,hen]
      clear hen;go_wp2_with (first
       |(refine qZg rfl _ _ rfl _ _ rfl _ _ rz Tryz.underlying280 rfl hsZ.out ?_)
       |(refine qZi rfl _ _ _ rfl _ _ Z.toArray rfl rfl (by rw[hZs.out];exact tz) hsA.out hZ1.out ?_)
       |fail)
      exact qYw (zn rfl _ _ (w.heap.size+1+1) 0 Z _ rfl (qYr _ _ _ _ (by first|(rw[hZs.out];exact tz)|(rw[hZl.out];exact tz))) Tryz.underlying280 rfl hsZ.out) rfl
       ⟨⟨_,fun h=>(by rw[HR.o]at h;cases h),fun _=>rfl,by rw[yL HS.o HR.o,HZ.o];rfl⟩,zj HBz.out (zp _ (w.heap.size+1+1) 0 _) (qXv _) (fun k e=>by omega)⟩
    .have hq:((kb:Int)==(k:Int))=false:=by rw[qYv];omega
     have hq2:((kb:Int) !=(k:Int))=true:=by rw[bne_iff_ne];omega
     have HR:Hid (okGet b k ss mb=false):=by
      show _=_;have:=HK.o;rw[qyc]at this;simp[okGet,<-this,hkk]
     have HBz:=qqh hbz;clear hkk hbz;go_wp2_with (first
      |(refine qZg rfl _ _ rfl _ _ rfl _ _ rz Tryz.underlying280 rfl hsZ.out ?_)
      |(refine qZi rfl _ _ _ rfl _ _ Z.toArray rfl rfl (by rw[hZs.out];exact tz) hsA.out hZ1.out ?_)
      |fail)
     exact qYw (zn rfl _ _ (w.heap.size+1+1) 0 Z _ rfl (qYr _ _ _ _ (by first|(rw[hZs.out];exact tz)|(rw[hZl.out];exact tz))) Tryz.underlying280 rfl hsZ.out) rfl
      ⟨⟨_,fun h=>(by rw[HR.o]at h;cases h),fun _=>rfl,by rw[yL HS.o HR.o,HZ.o];rfl⟩,zj HBz.out (zp _ (w.heap.size+1+1) 0 _) (qXv _) (fun k e=>by omega)⟩
 .have hsc:sealedC b=13:=if_neg hsl;have hres:=vt (k:=k) (ss:=ss) (mb:=mb) hsl;rw[hsc];have HR:=qqh hres;clear hsc hsl hres;obtain⟨g1,g2,g3,g4,u5,z4,z5⟩:=H5.o;have r4:=zg g4;have hth:w5.there (w.heap.size+1+1) 0 20:=fun j hj=>by
   rw[za g3,zf g3];exact⟨by rw[qYe,qxe (by have:=hZl.out;simp;omega)];rfl,rfl⟩
  have HU:=qqh u5;clear g1 g2 g3 g4 u5 z4 z5;go_wp2_with (first
   |(refine qZg rfl _ _ rfl _ _ rfl _ _ r4 Tryz.underlying280 rfl hsZ.out ?_)
   |(refine qZi rfl _ _ _ rfl _ _ Z.toArray rfl rfl (by rw[hZs.out];exact hth) hsA.out hZ1.out ?_)
   |fail)
  refine qYw (zn rfl _ _ (w.heap.size+1+1) 0 Z _ rfl (qYr _ _ _ _ (by first|(rw[hZs.out];exact hth)|(rw[hZl.out];exact hth))) Tryz.underlying280 rfl hsZ.out) rfl
   ⟨⟨_,fun h=>(by rw[HR.o.1]at h;cases h),fun _=>rfl,by rw[HR.o.2,HZ.o];rfl⟩,zj (Upd.below HU.o) (zp w5 (w.heap.size+1+1) 0 _) (qXv _) (fun k e=>by omega)⟩
def YB(w:World)(b:Bk):Ending->World->Prop:=wN w (okP b) (dsP (natsI (numsP b))) zeroP (cdP b)
theorem Un{w:World}{gs gt:Nat}(hF:TD w gs gt)(hN:Nib w)(b:Bk)(hb:b.length=64):
  Calls Tryz.prog 245 #[Xs gs gt,.agg (bkC b).toArray] w (YB w b):=by
 obtain⟨hs,v,hv,hB⟩:=hF;refine Qp (w:=w) b hb 3 szP ⟨by simp[szP],by decide⟩ 20 rfl (by decide) gs 20 308 310 #[.pointer (some ⟨gt,0,none⟩)] #[] (.func (.func 307) #[] #[]) (mayP (natsI (numsP b))) (dsP (natsI (numsP b)))
  (by rw[uj];exact xi) (uk _) hs hN (fun _ _=>rfl) (fun _ _=>rfl) ?_ ?_
 .intro W gl c hc hW hr;subst hc;exact Ye _ (by show(natsI (numsAt b 1 _)).length=20;simp[natsI,zC,szP]) (qXv _) (by decide) ((uuo (S:=fun _=>False) hW).cellv hv (fun h=>h)) (hB.below hW) hr
 .intro _ W gl c hc hW hr;subst hc;exact Ei _ (by show(natsI (numsAt b 1 _)).length=20;simp[natsI,zC,szP]) hr (qXv _) (by decide)
theorem YC{w:World}(hN:Nib w)(b:Bk)(hb:b.length=64):
  Calls Tryz.prog 172 #[.agg (bkC b).toArray] w (YB w b):=by
 have HN:=qqh hN;have Hb:=qqh hb;clear hN hb;go_enter Tryz.func172,Tryz.ntmps172
 go_wp2_with fail
 change Code.wp _ _ _ _ ((w.alloc (.cells (bkC b).toArray 54)).alloc (.cells zeroP.toArray 280))
 have hr:((w.alloc (.cells (bkC b).toArray 54)).alloc (.cells zeroP.toArray 280)).rangeAt w.heap.size 0 (bkC b):=qYp (zg (zc w _ rfl)) _;have hg:((w.alloc (.cells (bkC b).toArray 54)).alloc (.cells zeroP.toArray 280)).heap[w.heap.size+1]?=some (.cells zeroP.toArray 280):=zc _ _ (by simp);have hu:Upd (fun _=>False) w ((w.alloc (.cells (bkC b).toArray 54)).alloc (.cells zeroP.toArray 280)):=((uur _ w).alloc _).alloc _;generalize (w.alloc (.cells (bkC b).toArray 54)).alloc (.cells zeroP.toArray 280)=w2 at*;have hb2:Below w.heap.size w w2:=Upd.below hu;refine qZj (S:=fun W=>W.rangeAt w.heap.size 0 (bkC b)) (by kernel_rfl) (by rw[qYq];exact hr) (fun hHeld=>?_);refine Wl.l 1 (fun w h=>h) Tryz.underlying54 (zt _ Hb.out) hHeld ?_;refine Wl.r 0 (fun K hK=>?_);go_simp
 refine(rI _).mono ?_;rintro e w3 ⟨gs,gt,rfl,hF,hb3⟩;have hb3':Below w2.heap.size w2 w3:=yg hb3;refine hK.o _ _ (Below.range hb3 hHeld) (fun hHeld2=>?_);clear hK K;refine Wl.r 2 (fun K hK=>?_);go_simp
 refine(Un hF ((HN.o.keep hu (fun h=>h)).below hb3') b Hb.out).mono ?_;rintro e w4 ⟨⟨rs,hr1,hr2,rfl⟩,hb4⟩;have hb4':Below w2.heap.size w2 w4:=hb3'.trans (hb4.mono hb3'.size);have hg4:=(hb4'.block _ (zd hg)).trans hg;have hth:w4.there (w.heap.size+1) 0 20:=fun j hj=>by
  rw[za hg4,zf hg4];exact⟨by rw[qYe,qxe (by rw[qXm];exact hj)];rfl,rfl⟩
 have hrl:rs.length=20/\∀v∈rs,v.oneCell'=true:=by
  cases hk:okP b with
  |true=>rw[hr1 hk];exact⟨uj _,uk _⟩
  |false=>rw[hr2 hk];exact⟨rfl,qxw.1 (by simpa using zP_one:zeroP.all (·.oneCell')=true)⟩
 have hst:w4.there (w.heap.size+1) 0 rs.toArray.size:=by rw[show rs.toArray.size=20 by simpa using hrl.1];exact hth
 have hst2:w4.there (w.heap.size+1) 0 rs.length:=by rw[hrl.1];exact hth
 have hsz2:(Tryz.prog.info? 280).map (·.size)=some rs.toArray.size:=by rw[show rs.toArray.size=20 by simpa using hrl.1];exact xi
 have hsz3:(Tryz.prog.info? 280).map (·.size)=some rs.length:=by rw[hrl.1];exact xi
 have hU5:Below w.heap.size w (w4.setCells (w.heap.size+1) 0 rs):=zj (hb2.trans (hb4'.mono hu.size)) (zp w4 (w.heap.size+1) 0 _) (qXv _) (fun k e=>by omega);refine hK.o _ _ (Below.range hb4 hHeld2) (fun hHeld3=>?_);clear hK K;refine Wl.i [3,4] ?_;iterate 2 refine Wl.t hHeld3 ?_
 refine Wl.o ?_;refine Wl.r 5 (fun K hK=>?_);rw[if_pos (by rfl)];refine qZk _ _ _ rfl _ _ (List.toArray _) rfl rfl (hst) (hsz2) (qYu hrl.2) ?_;simp only[Act.put,qXi];refine hK.o _ _ ((zp w4 (w.heap.size+1) 0 rs).range hHeld3 (by omega)) (fun hHeld4=>?_);clear hK K;refine Wl.r 6 (fun K hK=>?_);go_simp
 refine hK.o _ _ (hHeld4) (fun _=>?_);clear hK K;refine Wl.d ?_;have HE:=Y5 hU5 hst2 hsz3 hr1 hr2;clear hst hst2 hsz2 hsz3 hU5 hth hg4 hb4 hb4' hb3 hb3' hHeld hHeld2 hHeld3 hHeld4 hF hr hg hu hb2 hr1 hr2 hrl;go_wp2
 exact qYw (zn rfl _ _ (w.heap.size+1) 0 rs _ rfl (qYr _ _ _ _ HE.o.2.1) Tryz.underlying280 rfl HE.o.2.2.1) rfl ⟨⟨rs,HE.o.2.2.2.1,HE.o.2.2.2.2,rfl⟩,HE.o.1⟩
theorem YD:∃i z,Tryz.prog.info? 37=some i/\i.zero=some z/\z.cells.size=4/\i.size=4/\i.bytes=32:=by
 have h:(Tryz.prog.info? 37).map (fun i=>(i.zero.map (·.cells.size),i.size,i.bytes))=some (some 4,4,32):=by kernel_rfl
 obtain⟨i,hi,he⟩:=qYi.1 h;simp only[qYk]at he;obtain⟨z,hz,hz2⟩:=qYi.1 he.1;exact⟨i,z,hi,hz,hz2,he.2.1,he.2.2⟩
theorem ti{w:World}{g o:Nat}{l:List Bk}(h:∀j u,(yN l)[j]?=some u->w.cell? ⟨g,o+j,none⟩=some u)(hl:All64 l){k:Nat}(hk:k<l.length):w.rangeAt g (o+k*64) (bkC (l.getD k zB)):=by
 intro j v hj;have e:l.getD k zB=l[k]:=by rw[qyh,qyn hk];rfl
 rw[e]at hj;have hj':=(qyp.1 hj).1;rw[zo,hl _ (qyz hk)]at hj';rw[qXr];exact h _ v ((vE hl hk hj').trans hj)
def EntsOut(w:World)(l:List Bk)(e:Ending)(w':World):Prop:=
 ∃v,e=.returned (.tuple #[.int .i64 ((if readOk l then readSeq l else 0:Nat):Int),v,.bool (readOk l)])/\Sl w' 37 4 v (if readOk l then readEs l else[]).length ((if readOk l then readEs l else[]).flatMap entC)/\From w.heap.size v/\Below w.heap.size w w'
theorem EntsOut.no{w w':World}{l:List Bk}(h:readOk l=false)(hb:Below w.heap.size w w'):EntsOut w l (.returned (.tuple #[.int .i64 0,.slice none 0 0,.bool false])) w':=
 ⟨.slice none 0 0,by rw[h];rfl,by rw[h];exact Sl.nil _ _ _,From.nil _ _ _,hb⟩
theorem Qq{b:Bk}(h:okP b=false):(cdP b==0)=false:=by
 unfold okP at h;unfold cdP yK;rw[h];split
 .next h=>cases h
 .split<;>decide
theorem Qr{b:Bk}(h:okP b=true):cdP b=0:=by
 unfold okP at h;unfold cdP yK;rw[h];rfl
theorem tj(l:List Bk)(k:Nat):entsTo l (k+1)=entsTo l k++pgEnts (l.getD k zB):=by simp[entsTo,List.range_succ]
theorem Zj{l:List Bk}{k:Nat}(hk:k<l.length)(h:goesP (readSeq l) (readOf l) k (l.getD k zB)=false):readOk l=false:=by
 rw[<-Bool.not_eq_true];intro e;unfold readOk at e;rw[qxo,qxo,qxw]at e;have:=e.2.2 k (qzx.2 hk);rw[h]at this;cases this
theorem rZ{l:List Bk}{of:Nat}(h:∀i,i<of->okP (l.getD i zB)=true):∀k,k<=of->(entsTo l k).length<=4*k
 |0,_=>qXv _
 |k+1,hk=>by
  rw[tj,qzd];have h1:=rZ h k (by omega);have h2:=(yB (h k (by omega))).2.2.2.2;have:(pgEnts (l.getD k zB)).length=pgMany (l.getD k zB):=by simp[pgEnts]
  omega
theorem Qs{w:World}{v:Value}{l:List Bk}(hs:Rd w 64 v l.length (yN l))(hl:All64 l)(hpos:0<l.length)(hl1:l.length<=4096)(hN:Nib w):Calls Tryz.prog 99 #[v] w (EntsOut w l):=by
 obtain⟨g,o,cap,rfl,hg,hrow⟩:=hs.at hpos;have hr0:=ti hrow hl hpos;rw[qYg,qXs]at hr0;have h64:∀k,(l.getD k zB).length=64:=fun k=>by
  rw[qyh];cases h:l[k]? with
  |none=>rfl
  |some x=>exact hl x (List.mem_of_getElem? h)
 obtain⟨b0,hb0⟩:=qqe (l.getD 0 zB);have h640:b0.length=64:=by rw[hb0];exact h64 0
 rw[<-hb0]at hr0;have HG:=qqh (YC hN b0 h640);have q0:(0:Int)<(l.length:Int):=by omega
 have hsz:=zt b0 h640;obtain⟨Z,hZ⟩:=qqe (dsPk [] 0);have hal:=WP;simp only[<-hZ]at hal;have hZl:Z.toArray.size=20:=by rw[hZ,qXm,xY]
 have HR:=Y7 hrow hl h64 hN hb0 hal hZl;clear hrow hl h64 hN hb0 hs hZ hZl;go_enter Tryz.func99,Tryz.ntmps99
 go_wp2
 go_step3
 go_wp2_with (first
  |(refine qZg rfl _ _ rfl _ _ rfl _ _ hr0 Tryz.underlying54 rfl hsz ?_)
  |fail)
 refine HG.o.mono ?_;rintro e w1 ⟨⟨rs,hr1,hr2,rfl⟩,hb1⟩;have hrl:rs.length=20/\∀v∈rs,v.oneCell'=true:=by
  cases hk:okP b0 with
  |true=>rw[hr1 hk];exact⟨uj _,uk _⟩
  |false=>rw[hr2 hk];exact⟨rfl,qxw.1 (by simp[zeroP,Value.oneCell']:zeroP.all (·.oneCell')=true)⟩
 obtain⟨w2,hw2⟩:=qqe (w1.alloc (.cells rs.toArray 280));have hu2:Upd (fun _=>False) w w2:=by rw[hw2];exact(uuo hb1).alloc _
 have g2:w2.heap[w1.heap.size]?=some (.cells rs.toArray 280 (0,0)):=by rw[hw2];exact zc w1 _ rfl
 have z2:w2.heap.size=w1.heap.size+1:=by rw[hw2];simp
 have hge:=hb1.size;have HW:=Y2 hw2 hrl;have H2:=Y4 hu2 g2 z2 hge;clear hu2 g2 z2 hge hw2 hb1 hr0;obtain⟨P,hP⟩:=qqe (w1.heap.size);rw[<-hP]at H2;go_upto_region 2 with(first
  |(refine zT rfl _ rfl _ hal ?_)
  |(refine zk rfl _ _ _ rfl _ _ rs rfl rfl (by rw[HW.o.2.1];exact HR.o.2.2.2.2.2.2) (by rw[HW.o.2.1];exact wB) HW.o.2.2 ?_)
  |fail)
 rw[<-HW.o.1,<-hP];have HP:=qqh hP;clear hP;cases hok:okP b0 with
 |false=>
  have q1:=Qq hok;have hno:readOk l=false:=by unfold readOk;rw[<-HR.o.2.2.2.2.1,hok];rfl
  generalize cdP b0=cd at*;have HN:=qqh hno;have q2:¬cd=0:=by simpa using q1
  clear hok hno hr1 hr2;go_wp2_with fail
  rw[qxr];exact qYw (v:=.tuple #[.int .i64 0,.slice none 0 0,.bool false]) (by simp[results,Tryz.results99,go_sem]) rfl (EntsOut.no HN.o (Upd.below H2.o.1))
 |true=>
  have hcd:=Qr hok;rw[hcd];obtain⟨hu2,g2,z2,hge⟩:=H2.o;rw[hr1 hok]at g2;obtain⟨c0,c1,c2,c3,cr⟩:=Yz g2 hok;obtain⟨-,-,ho1,ho2,-⟩:=yB hok;have hof:readOf l=pgOf b0:=by unfold readOf;rw[HR.o.2.2.2.2.1]
  have hsq:readSeq l=pgSeq b0:=by unfold readSeq;rw[HR.o.2.2.2.2.1]
  rw[<-hof]at c2 ho1 ho2;rw[<-hsq]at c0;have HB:=Y5 g2 c0 ho1 ho2 hok;clear g2 c0 c1 c3 cr hof hsq hcd hr1 hr2 hok hu2 z2 hge ho1 ho2;by_cases hle:readOf l<=l.length
  .have q2:¬((l.length:Int)<(readOf l:Int)):=by omega
   go_wp2_with fail
   go_step3
   go_wp2_with fail
   go_loopg[7,8,32] l.length (fun gk s7 s8 s32 wr=>∃k:Nat,k+gk=l.length/\s32=.int .i64 (k:Int)/\s8=.bool true/\Sl wr 37 4 s7 (entsTo l (min k (readOf l))).length ((entsTo l (min k (readOf l))).flatMap entC)/\From (P+1) s7/\Upd (fun j=>P+1<=j) w2 wr/\∀i<k,goesP (readSeq l) (readOf l) i (l.getD i zB)=true)
   case atStart=>exact⟨0,by omega,rfl,rfl,by rw[Nat.zero_min];exact Sl.nil _ _ _,From.nil _ _ _,uur _ _,fun i h=>by omega⟩
   case round=>
    obtain⟨k,hk,rfl,rfl,hsl,hfr,hu,hall⟩:=hrel;obtain⟨hrow,hl,h64,hN,hb0,hal',hZl⟩:=HR.o;obtain⟨hu2,g2,z2,hge⟩:=H2.o;obtain⟨gg2,c0,ho1,ho2,hok⟩:=HB.o;have hout:∀j,j<=P->¬(P+1<=j):=fun j hj=>by omega
    have d0:=hu.cellv c0 (hout _ (qXv _));have d2:=hu.cellv c2 (hout _ (qXv _));have hU:Upd (fun j=>w.heap.size<=j) w wr:=(hu2.mono (fun _ _ h=>h.elim)).trans (hu.mono (fun j _ (h:P+1<=j)=>by omega));by_cases hlt:k<l.length
    .have k1:(k:Int)<(l.length:Int):=by omega
     have k0:(0:Int)<=(k:Int):=by omega
     obtain⟨bk,hbk⟩:=qqe (l.getD k zB);have hbl:bk.length=64:=by rw[hbk];exact h64 k
     have hr1:=ti hrow hl hlt;rw[<-hbk]at hr1;have hrk:wr.rangeAt g (o+k*64) (bkC bk):=hU.range hr1 (by omega);have hszk:=zt bk hbl;obtain⟨w3,hw3⟩:=qqe (wr.alloc (.cells (bkC bk).toArray 54));have hu3:Upd (fun _=>False) wr w3:=by rw[hw3];exact(uur _ wr).alloc _
     have g3:w3.heap[wr.heap.size]?=some (.cells (bkC bk).toArray 54 (0,0)):=by rw[hw3];exact zc wr _ rfl
     have r3:=zg g3;have e0:=hu3.cellv d0 (fun h=>h);have e2:=hu3.cellv d2 (fun h=>h);have hst:=zv bk;have HW3:=qqh hw3;have hzr:P+1<=wr.heap.size:=by have:=hu.size;omega
     have H3:=Y11 hu3 hsl hfr hu hall hU hN ho1 ho2 hk hzr;obtain⟨q,hq⟩:=qqe (wr.heap.size);have HQ:=qqh hq;have HBK:=Y2 hbk hb0;have hx8:(bkC bk).toArray.size=64:=zl _ hbl;rw[<-hq]at r3;have hb3:Below w.heap.size w w3:=(zj (qxl _ w) hU (qXv _) (fun _ h=>h)).trans ((Upd.below hu3).mono hU.size);have HE:=qqh hb3;clear hw3 hu3 g3 hu2 g2 z2 hge gg2 c0 ho1 ho2 hok d0 d2 hr1 hsl hfr hu hall hU hN hal' hrow hl h64 hZl hzr hq hb3 hbk hb0;go_upto_region 9 with(first
      |(refine qZg rfl _ _ rfl _ _ rfl _ _ hrk Tryz.underlying54 rfl hszk ?_)
      |(refine zk rfl _ _ _ rfl _ _ (bkC bk) rfl rfl (by rw[zo,hbl];rfl) hszk hst ?_)
      |fail)
     rw[<-HW3.o,<-HQ.o];by_cases hof:readOf l<=k
     .have hgo:goesP (readSeq l) (readOf l) k bk=(bk==zB):=by unfold goesP;rw[if_pos hof]
      have q3:((readOf l:Nat):Int)<=(k:Int):=by omega
      have hneq:=fun W=>XK bk zB hbl zw W;obtain⟨ZB,hZB⟩:=qqe (zB);have hbz:=wm ZB hZB;rw[<-hZB]at hneq hgo;have HZB:=qqh hZB;clear hZB;by_cases hz:bk=ZB
      .have qz:(bk==ZB)=true:=by simp[hz]
       rw[qz]at hneq hgo;have HGO:=qqh hgo;clear hgo hz;go_wp2_with (first
        |(refine qZg rfl _ _ rfl _ _ rfl _ _ r3 Tryz.underlying54 rfl hszk ?_)
        |(refine zX rfl rfl hbz ?_)
        |fail)
       go_roundg (gk-1)
       case measure=>omega
       case rel=>
        obtain⟨hu3,hsl,hfr,hu,hall,hU,hN,ho1,ho2,hk,hzr⟩:=H3.o;refine⟨k+1,by omega,by go_num,rfl,?_,hfr,hu.trans (hu3.mono (fun _ _ h=>h.elim)),fun i hi=>?_⟩
        .rw [Nat.min_eq_right hof]at hsl;rw[Nat.min_eq_right (by omega)];exact hsl.keep hu3 (fun _ _ h=>h)
        .rcases Nat.lt_succ_iff_lt_or_eq.1 hi with h|rfl
         .exact hall i h
         .rw [<-HBK.o.1];exact HGO.o
      .have qz:(bk==ZB)=false:=by simpa using hz
       rw[qz]at hneq hgo;have HN:=qqh (Zj hlt (HBK.o.1▸hgo));clear hgo hz;go_wp2_with (first
        |(refine qZg rfl _ _ rfl _ _ rfl _ _ r3 Tryz.underlying54 rfl hszk ?_)
        |(refine zX rfl rfl hbz ?_)
        |fail)
       rw[qxr];exact qYw (v:=.tuple #[.int .i64 0,.slice none 0 0,.bool false]) (by simp[results,Tryz.results99,go_sem]) rfl (EntsOut.no HN.o HE.o)
     .have q3:¬(((readOf l:Nat):Int)<=(k:Int)):=by omega
      have hgo:goesP (readSeq l) (readOf l) k bk=(okP bk&&(pgSeq bk==readSeq l&&(pgNo bk==k&&(pgOf bk==readOf l&&(if k+1=readOf l then !(pgMany bk==0&&decide (0<k))else pgMany bk==4))))):=by unfold goesP;rw[if_neg hof]
      have hGP:=qqh (YC (H3.o.2.2.2.2.2.2.1.keep (S:=fun j=>w.heap.size<=j) (H3.o.2.2.2.2.2.1.trans (H3.o.1.mono (fun _ _ h=>h.elim))) (fun h=>by have:=H3.o.2.2.2.2.2.2.1.lt;omega)) bk hbl);go_wp2_with (first
       |(refine qZg rfl _ _ rfl _ _ rfl _ _ r3 Tryz.underlying54 rfl hszk ?_)
       |fail)
      refine hGP.out.mono ?_;rintro e w4 ⟨⟨rs',hr1,hr2,rfl⟩,hb4⟩;have hrl':rs'.length=20/\∀v∈rs',v.oneCell'=true:=by
       cases hk:okP bk with
       |true=>rw[hr1 hk];exact⟨uj _,uk _⟩
       |false=>rw[hr2 hk];exact⟨rfl,qxw.1 (by simp[zeroP,Value.oneCell']:zeroP.all (·.oneCell')=true)⟩
      obtain⟨w5,hw5⟩:=qqe (w4.alloc (.cells rs'.toArray 280));have hu5:Upd (fun _=>False) w3 w5:=by rw[hw5];exact(uuo hb4).alloc _
      have g5:w5.heap[w4.heap.size]?=some (.cells rs'.toArray 280 (0,0)):=by rw[hw5];exact zc w4 _ rfl
      have hz5:w5.heap.size=w4.heap.size+1:=by rw[hw5];simp
      have f0:=hu5.cellv e0 (fun h=>h);have f2:=hu5.cellv e2 (fun h=>h);have HW5:=Y2 hw5 hrl';obtain⟨M,hM⟩:=qqe (w4.heap.size);rw[<-hM]at g5;have hb5:Below w.heap.size w w5:=HE.o.trans ((Upd.below hu5).mono HE.o.size);have HE5:=Y5 hb5 hu5 hz5 hM hb4.size;have HM:=qqh hM;clear hw5 hrl' hb4 hu5 hz5 hb5 e0 e2 hM r3;go_upto_region 13 with(first
       |(refine zT rfl _ rfl _ hal ?_)
       |(refine zk rfl _ _ _ rfl _ _ rs' rfl rfl (by rw[HW5.o.2.1];exact HR.o.2.2.2.2.2.2) (by rw[HW5.o.2.1];exact wB) HW5.o.2.2 ?_)
       |fail)
      rw[<-HW5.o.1,<-HM.o];cases hok:okP bk with
      |false=>
       have q4:=Qq hok;rw[hok]at hgo;have HN:=qqh (Zj hlt (HBK.o.1▸hgo));generalize cdP bk=cd at*;have q5:¬cd=0:=by simpa using q4
       clear hok hgo hr1 hr2;go_wp2_with fail
       rw[qxr];exact qYw (v:=.tuple #[.int .i64 0,.slice none 0 0,.bool false]) (by simp[results,Tryz.results99,go_sem]) rfl (EntsOut.no HN.o HE5.o.1)
      |true=>
       rw[Qr hok];rw[hr1 hok]at g5;obtain⟨y0,y1,y2,y3,yr⟩:=Yz g5 hok;rw[hok,qxp]at hgo;have hmany:=(yB hok).2.2.2.2;have hel:(pgEnts bk).length=pgMany bk:=by simp[pgEnts]
       obtain⟨pe,hpe⟩:=qqe (pgEnts bk);rw[<-hpe]at yr hel;have HPE:=qqh hpe;generalize pgSeq bk=a0 at*;generalize pgNo bk=a1 at*;generalize pgOf bk=a2 at*;generalize pgMany bk=a3 at*;clear hr1 hr2 hok g5 hpe;have hgn:goesP (readSeq l) (readOf l) k bk=false->readOk l=false:=fun h=>Zj hlt (HBK.o.1▸h);have hfin:goesP (readSeq l) (readOf l) k bk=true->∀v' w6,Sl w6 37 4 v' ((entsTo l k).length+a3) ((entsTo l k).flatMap entC++pe.flatMap entC)->Upd (ownS u7) w5 w6->blockFrom w5 u7 v'->
         Sl w6 37 4 v' (entsTo l (min (k+1) (readOf l))).length ((entsTo l (min (k+1) (readOf l))).flatMap entC)/\From (P+1) v'/\Upd (fun j=>P+1<=j) w2 w6/\∀i<k+1,goesP (readSeq l) (readOf l) i (l.getD i zB)=true:=by
        intro hg v' w6 hs6 hu6 hb6;obtain⟨hu3,hsl,hfr,hu,hall,hU,hN,ho1,ho2,hk,hzr⟩:=H3.o;obtain⟨hb5,hu5,hz5,hM,hMs⟩:=HE5.o;refine⟨?_,hb6.ge (by have:=hu3.size;have:=hu5.size;omega) hfr,(hu.trans (((hu3.trans hu5).mono (fun _ _ h=>h.elim)))).trans (hu6.mono (fun j _ hj=>hfr j hj)),fun i hi=>?_⟩
        .rw [Nat.min_eq_left (by omega),tj,qzd,qyf,<-HBK.o.1,<-HPE.o,hel];exact hs6
        .rcases Nat.lt_succ_iff_lt_or_eq.1 hi with h|rfl
         .exact hall i h
         .rw [<-HBK.o.1];exact hg
       have hsl5:Sl w5 37 4 u7 (entsTo l k).length ((entsTo l k).flatMap entC):=by
        have:=H3.o.2.1;rw[Nat.min_eq_left (by omega)]at this;exact this.keep (H3.o.1.trans HE5.o.2.1) (fun _ _ h=>h)
       have hel4:(entsTo l k).length<=4*k:=by
        refine rZ (of:=k) (fun i hi=>?_) k (qXv _);have:=H3.o.2.2.2.2.1 i hi;unfold goesP at this;rw[if_neg (by omega)]at this;exact(qxo _ _▸this).1
       have hrd:Rd w5 4 (.slice (some ⟨M,4,none⟩) a3 a3) a3 (pe.flatMap entC):=by
        refine⟨by rw[xR,hel],by unfold maxLen;omega,some ⟨M,4,none⟩,a3,rfl,(fun h=>by cases h),(fun b hb=>?_)⟩;cases hb;intro j u hj;rw[qxa];exact yr j u hj
       have hpe1:∀u∈pe.flatMap entC,u.oneCell'=true:=fun u hu=>by
        obtain⟨x,-,hx⟩:=qzu.1 hu;exact ZT x u hx
       have hofe:1<=readOf l/\readOf l<=256:=⟨HB.o.2.2.1,HB.o.2.2.2.1⟩
       obtain⟨ie,ze,hie,hze,hz4,hi4,hi32⟩:=YD;have HF:=Y5 hfin hsl5 hrd hpe1 hel4;have HGN:=qqh hgn;clear hgn hfin hsl5 hrd hpe1 hel4 yr hel;generalize goesP (readSeq l) (readOf l) k bk=gb at*;generalize readSeq l=S0 at*;generalize readOf l=F0 at*;by_cases h0:a0=S0
       .subst h0;by_cases h1:a1=k
        .subst h1;by_cases h2:a2=F0
         .subst h2;simp only[beq_self_eq_true,qxp]at hgo;by_cases hl:a1+1=a2
          .subst hl;rw[if_pos rfl]at hgo;by_cases h3:a3=0
           .subst h3;by_cases h4:0<a1
            .have q6:((0:Nat):Int)<(a1:Int):=by omega
             have HN:=qqh (HGN.o (by rw[hgo,qYy h4];rfl));clear hgo;go_wp2_with fail
             rw[qxr];exact qYw (v:=.tuple #[.int .i64 0,.slice none 0 0,.bool false]) (by simp[results,Tryz.results99,go_sem]) rfl (EntsOut.no HN.o HE5.o.1)
            .have q6:¬((0:Nat):Int)<(a1:Int):=by omega
             rw[decide_eq_false h4]at hgo;replace hgo:gb=true:=hgo;have HF2:=qqh (HF.o.1 hgo);have HS:=Y4 HF.o.2.1 HF.o.2.2.1 HF.o.2.2.2.1 HF.o.2.2.2.2;clear hgo;go_wp2_with (first
              |(at_builtin;refine zK rfl _ _ 22 rfl ie ze 32 Tryz.underlying22 hie hze hi4 hi32 hz4 (by decide) rfl HS.o.1 _ _ (pe.flatMap entC) rfl HS.o.2.1 HS.o.2.2.1 (by unfold maxLen;have:=HS.o.2.2.2;omega) (by have:=HS.o.2.2.2;omega) ?_)
              |fail)
             intro v' w6 hs6 hu6 hb6;have HZ:=qqh (HF2.o v' w6 hs6 hu6 hb6);clear hs6 hu6 hb6;go_wp2_with fail
             go_roundg (gk-1)
             case measure=>have:=H3.o.2.2.2.2.2.2.2.2.2.1;omega
             case rel=>exact⟨a1+1,by have:=H3.o.2.2.2.2.2.2.2.2.2.1;omega,by go_num,rfl,HZ.o.1,HZ.o.2.1,HZ.o.2.2.1,HZ.o.2.2.2⟩
           .have q6:¬((a3:Nat):Int)=0:=by omega
            have b1:(0:Int)<=(a3:Int):=by omega
            have b2:(a3:Int)<=4:=by omega
            rw[show(a3==0)=false by simpa using h3]at hgo;replace hgo:gb=true:=hgo;have HF2:=qqh (HF.o.1 hgo);have HS:=Y4 HF.o.2.1 HF.o.2.2.1 HF.o.2.2.2.1 HF.o.2.2.2.2;clear hgo;go_wp2_with (first
             |(at_builtin;refine zK rfl _ _ 22 rfl ie ze 32 Tryz.underlying22 hie hze hi4 hi32 hz4 (by decide) rfl HS.o.1 _ _ (pe.flatMap entC) rfl HS.o.2.1 HS.o.2.2.1 (by unfold maxLen;have:=HS.o.2.2.2;omega) (by have:=HS.o.2.2.2;omega) ?_)
             |fail)
            intro v' w6 hs6 hu6 hb6;have HZ:=qqh (HF2.o v' w6 hs6 hu6 hb6);clear hs6 hu6 hb6;go_wp2_with fail
            go_roundg (gk-1)
            case measure=>have:=H3.o.2.2.2.2.2.2.2.2.2.1;omega
            case rel=>exact⟨a1+1,by have:=H3.o.2.2.2.2.2.2.2.2.2.1;omega,by go_num,rfl,HZ.o.1,HZ.o.2.1,HZ.o.2.2.1,HZ.o.2.2.2⟩
          .rw [if_neg hl]at hgo;have q5:¬((a1:Nat):Int)=(a2:Int)-1:=by omega
           by_cases h3:a3=4
           .subst h3;replace hgo:gb=true:=hgo;have HF2:=qqh (HF.o.1 hgo);have HS:=Y4 HF.o.2.1 HF.o.2.2.1 HF.o.2.2.2.1 HF.o.2.2.2.2;clear hgo;go_wp2_with (first
             |(at_builtin;refine zK rfl _ _ 22 rfl ie ze 32 Tryz.underlying22 hie hze hi4 hi32 hz4 (by decide) rfl HS.o.1 _ _ (pe.flatMap entC) rfl HS.o.2.1 HS.o.2.2.1 (by unfold maxLen;have:=HS.o.2.2.2;omega) (by have:=HS.o.2.2.2;omega) ?_)
             |fail)
            intro v' w6 hs6 hu6 hb6;have HZ:=qqh (HF2.o v' w6 hs6 hu6 hb6);clear hs6 hu6 hb6;go_wp2_with fail
            go_roundg (gk-1)
            case measure=>have:=H3.o.2.2.2.2.2.2.2.2.2.1;omega
            case rel=>exact⟨a1+1,by have:=H3.o.2.2.2.2.2.2.2.2.2.1;omega,by go_num,rfl,HZ.o.1,HZ.o.2.1,HZ.o.2.2.1,HZ.o.2.2.2⟩
           .have q6:¬((a3:Nat):Int)=4:=by omega
            have HN:=qqh (HGN.o (by rw[hgo];simpa using h3));clear hgo;go_wp2_with fail
            rw[qxr];exact qYw (v:=.tuple #[.int .i64 0,.slice none 0 0,.bool false]) (by simp[results,Tryz.results99,go_sem]) rfl (EntsOut.no HN.o HE5.o.1)
         .have q6:¬((a2:Nat):Int)=(F0:Int):=by omega
          have q7:(a2==F0)=false:=by simpa using h2
          simp only[beq_self_eq_true,qxp]at hgo;rw[q7]at hgo;have HN:=qqh (HGN.o hgo);clear hgo;go_wp2_with fail
          rw[qxr];exact qYw (v:=.tuple #[.int .i64 0,.slice none 0 0,.bool false]) (by simp[results,Tryz.results99,go_sem]) rfl (EntsOut.no HN.o HE5.o.1)
        .have q6:¬((a1:Nat):Int)=(k:Int):=by omega
         have q7:(a1==k)=false:=by simpa using h1
         simp only[beq_self_eq_true,qxp]at hgo;rw[q7]at hgo;have HN:=qqh (HGN.o hgo);clear hgo;go_wp2_with fail
         rw[qxr];exact qYw (v:=.tuple #[.int .i64 0,.slice none 0 0,.bool false]) (by simp[results,Tryz.results99,go_sem]) rfl (EntsOut.no HN.o HE5.o.1)
       .have q6:¬((a0:Nat):Int)=(S0:Int):=by omega
        have q7:(a0==S0)=false:=by simpa using h0
        rw[q7]at hgo;have HN:=qqh (HGN.o hgo);clear hgo h0;go_wp2_with fail
        rw[qxr];exact qYw (v:=.tuple #[.int .i64 0,.slice none 0 0,.bool false]) (by simp[results,Tryz.results99,go_sem]) rfl (EntsOut.no HN.o HE5.o.1)
    .obtain rfl:k=l.length:=by omega
     have k1:¬((l.length:Int)<(l.length:Int)):=by omega
     have hro:readOk l=true:=by
      unfold readOk;rw[<-hb0,hok,qYy hle,qxp,qxp,qxw];exact fun i hi=>hall i (qzx.1 hi)
     rw[Nat.min_eq_right hle]at hsl;have hz:EntsOut w l (.returned (.tuple #[.int .i64 (readSeq l:Int),u7,.bool true])) wr:=
      ⟨u7,by rw[hro];rfl,by rw[hro];exact hsl,hfr.mono (by omega),zj (qxl _ w) hU (qXv _) (fun _ h=>h)⟩
     have HZ:=qqh hz;clear hz hro hsl hfr hu hall hU hrow hl h64 hN hb0 hal' hZl hu2 g2 z2 hge gg2 ho1 ho2 hok;go_wp2_with fail
     try rw[qxr]
     exact qYw (v:=.tuple #[.int .i64 (readSeq l:Int),u7,.bool true]) (by simp[results,Tryz.results99,go_sem]) rfl HZ.o
  .have q2:((l.length:Int)<(readOf l:Int)):=by omega
   have hno:readOk l=false:=by unfold readOk;rw[decide_eq_false hle];simp
   have HN:=qqh hno;clear hno hle;go_wp2_with fail
   rw[qxr];exact qYw (v:=.tuple #[.int .i64 0,.slice none 0 0,.bool false]) (by simp[results,Tryz.results99,go_sem]) rfl (EntsOut.no HN.o (Upd.below H2.o.1))
end Go.Proofs.YtfhfbpmlnjdfoaaGreatDoor
