/- The form of th -/
import Derived.Test.YtpejdgiccaijfaaGreatDoorG10
import Derived.Test.YtpejdgiccaijfaaGreatDoorG12
import Derived.Test.YtpejdgiccaijfaaGreatDoorG13
set_option maxRecDepth 100000
set_option maxHeartbeats 4000000
namespace Go.Proofs.YtpejdgiccaijfaaGreatDoor
open Go Go.RowKit Tryz
variable{w:World}{L:List (List Nat)}{b:Bk}{D:Nat->Prop}{p4 k:Nat}{F:List Bk}{O:List (Nat×Bk)}
def szS:List Nat:=[6,2,2,2,2,2,1]
def VX(gs gt:Nat):Value:=.agg #[.int .i64 1,.slice (some ⟨gs,0,none⟩) 7 7,.func (.func 125) #[] #[],.func (.func 194) #[] #[.pointer (some ⟨gt,0,none⟩)],.func (.func 127) #[] #[]]
def JJ(w:World)(gs gt:Nat):Prop:=w.rangeAt gs 0 (ints (natsI szS))/\Bnd w (.func (.func 194) #[] #[.pointer (some ⟨gt,0,none⟩)]) bndS
theorem zaE:(prog.info? 141).map (·.size)=some 5:=kR
theorem yv:(prog.info? 44).map (·.size)=some 7:=kR
theorem wW(w:World):Calls prog 77 #[] w fun e a=>∃gs h,e=.returned (VX gs h)/\JJ a gs h/\Below w.heap.size w a:=by
 have q:=qqf;go_enter func77,ntmps77
 go_wp2_with fail
 refine(xG).mono ?_;rintro e w1 ⟨rfl,rfl⟩;go_wp2
 obtain⟨h1,h2,j,n,s,p⟩:=xK w (.cells #[.int .i64 1,.slice (some ⟨w.heap.size+1,0,none⟩) 7 7,.func (.func 125) #[] #[],.func (.func 194) #[] #[.pointer (some ⟨w.heap.size+1+1+1,0,none⟩)],.func (.func 127) #[] #[]] 141) (.cells (ints (natsI szS)).toArray 3)
  (.cells (bndC bndS).toArray 207) (.cells #[.slice (some ⟨w.heap.size+1+1,0,none⟩) 7 7] 294)
 refine qYq (zq rfl _ _ w.heap.size 0 [.int .i64 1,.slice (some ⟨w.heap.size+1,0,none⟩) 7 7,.func (.func 125) #[] #[],.func (.func 194) #[] #[.pointer (some ⟨w.heap.size+1+1+1,0,none⟩)],.func (.func 127) #[] #[]] _ rfl (zg h1) underlying141 rfl zaE) rfl
  ⟨w.heap.size+1,w.heap.size+1+1+1,rfl,⟨zg h2,w.heap.size+1+1+1,w.heap.size+1+1,7,rfl,za n 0,zg j⟩,Upd.below p⟩
def sectS(xs:List Int):Bk:=sectB 1 (numL szS xs)
theorem qe{xs:List Int}(h:xs.length=7):(sectS xs).length=64:=vQ jJ
def Ws(w:World)(xs:List Int)(e:Ending)(w':World):Prop:=
 ((mayS xs=true/\e=.returned (.tuple #[.agg (bkC (sectS xs)).toArray,.int .i64 0]))\/(mayS xs=false/\e=.returned (.tuple #[.agg (bkC zB).toArray,.int .i64 10])))/\Below w.heap.size w w'
theorem Wt{w:World}{gs j:Nat}(G:JJ w gs j)(H:Nib w)(cs:List Value)(J:cs.length=7)(xs:List Int)(hxl:xs.length=7)
  (M:∀a,Calls prog 125 #[.agg cs.toArray] a (zS a 7 xs)):
  Calls prog 76 #[VX gs j,.agg cs.toArray] w (Ws w xs):=by
 obtain⟨N,Q⟩:=G;have E:(prog.info? 44).map (·.size)=some cs.length:=by rw[J];exact yv
 have s:∀a,Below w.heap.size w a->Calls prog 125 (#[.agg cs.toArray]++ #[]) a (zS a 7 xs):=fun a _=>M a;have n:∀a gl q,7<=q->q<=maxLen->Below w.heap.size w a->a.rangeAt gl 0 (ints xs)->Calls prog 194 (#[.slice (some ⟨gl,0,none⟩) 7 q]++ #[.pointer (some ⟨j,0,none⟩)]) a fun e S=>e=.returned (.bool (mayS xs))/\Below a.heap.size a S:=fun a gl q T U V W=>
  XK xs hxl T U (Q.below V) W
 cases p:mayS xs with
 |false=>
  rw[p]at n;exact(AC (w:=w) 1 xs 7 gs 7 125 194 #[] #[.pointer (some ⟨j,0,none⟩)] (.func (.func 127) #[] #[]) rfl cs E (fun _ _=>rfl) (fun _ _=>rfl) s n).mono
   (fun e X ⟨v,A⟩=>⟨.inr ⟨p,v⟩,A⟩)
 |true=>
  rw[p]at n;obtain⟨Y,Z⟩:=ZD hxl p;have e:numsL (numL szS xs)=xs:=tU jR Y;rw[<-e]at s n;exact(Sj (w:=w) 1 de (numL szS xs) Z 7 (by rw[rJ jR];rfl) de gs 7 125 194 #[] #[.pointer (some ⟨j,0,none⟩)] (.func (.func 127) #[] #[]) rfl cs E (by rw[XF jR];exact N) H (fun _ _=>rfl) (fun _ _=>rfl) s n).mono
   (fun e X ⟨v,A⟩=>⟨.inl ⟨p,v⟩,A⟩)
namespace fFormS2
abbrev n14f:Nat:=44
theorem AT:type_of% @yv:= @yv
abbrev d16f:= @mayS
theorem zcn:type_of% @func45:= @func45
theorem zco:type_of% @ntmps45:= @ntmps45
theorem zcp:type_of% @underlying44:= @underlying44
theorem zcq:type_of% @wW:= @wW
theorem zcr:type_of% @Wt:= @Wt
abbrev zcs:= @sectS
theorem zct:type_of% @qe:= @qe
end fFormS2
open fFormS2 in
theorem JK(hN:Nib w)(cs:List Value)(hcs:cs.length=7)(xs:List Int)(hxl:xs.length=7)
  (htell:∀W,Calls prog 125 #[.agg cs.toArray] W (zS W 7 xs)):
  Calls prog 45 #[.agg cs.toArray] w (Ws w xs):=wO
def dsS(xs:List Int):List Value:=[.int .i64 (xs.getD 0 0),.int .i64 (xs.getD 1 0),.int .i64 (xs.getD 2 0),.int .i64 (xs.getD 3 0),.int .i64 (xs.getD 4 0),.int .i64 (xs.getD 5 0),.int .i64 (xs.getD 6 0)]
theorem re(xs:List Int):(dsS xs).length=7:=rfl
theorem rf(xs:List Int):∀a∈dsS xs,a.oneCell'=true:=by
 intro a h;simp only[dsS,qzn,qzz,qYu]at h;rcases h with rfl|rfl|rfl|rfl|rfl|rfl|rfl<;>rfl
theorem zdf{gl ol cl:Nat}(xs:List Int)(j:xs.length=7)(hx:w.rangeAt gl ol (ints xs)):
  Calls prog 127 (#[.slice (some ⟨gl,ol,none⟩) 7 cl]++ #[]) w fun e n=>e=.returned (.agg (dsS xs).toArray)/\Below w.heap.size w n:=by
 have a:=yx hx 0 oM;have J:=yx hx 1 oM;have M:=yx hx 2 oM;have N:=yx hx 3 oM;have Q:=yx hx 4 oM;have S:=yx hx 5 oM;have T:=yx hx 6 oM;rw[qXn]at a;have hlt:gl<w.heap.size:=qYh w _ a;have p:Hid (dsS xs=[.int .i64 (xs.getD 0 0),.int .i64 (xs.getD 1 0),.int .i64 (xs.getD 2 0),.int .i64 (xs.getD 3 0),.int .i64 (xs.getD 4 0),.int .i64 (xs.getD 5 0),.int .i64 (xs.getD 6 0)]):=rfl;generalize xs.getD 0 0=q at*;generalize xs.getD 1 0=s at*;generalize xs.getD 2 0=v at*;generalize xs.getD 3 0=A at*;generalize xs.getD 4 0=E at*;generalize xs.getD 5 0=G at*;generalize xs.getD 6 0=H at*;clear hx j;go_enter func127,ntmps127
 go_wp2
 go_region
 go_wp2
 exact qYq (zq rfl _ _ w.heap.size 0 [.int .i64 q,.int .i64 s,.int .i64 v,.int .i64 A,.int .i64 E,.int .i64 G,.int .i64 H] _ rfl ((qYk ..).2 (zg (zc w _ rfl))) underlying44 rfl yv) rfl
  ⟨by rw[p.out],zP ((qxl _ w).alloc (qXp _) _) 1⟩
theorem zfk(a j n p q s v:Int)(w:World):Calls prog 125 #[.agg #[.int .i64 a,.int .i64 j,.int .i64 n,.int .i64 p,.int .i64 q,.int .i64 s,.int .i64 v]] w (zS w 7 [a,j,n,p,q,s,v]):=by
 go_enter func125,ntmps125
 go_wp2
 go_ret
 exact⟨w.heap.size+1,7,rfl,qXp _,by unfold maxLen;omega,zg (zc _ _ oe),((qxl _ w).alloc (qXp _) _).alloc oe _⟩
theorem wX{P:Prop}(h:P:=by
 have H:=Y6 hs hN hmay hbuild hss hm;have HC:=Y3 hds hd1 hb;clear hs hN hmay hbuild hss hm hds hd1 hb;have hr:((w.alloc (.cells #[.int .i64 (k:Int),.slice (some ⟨gs,0,none⟩) m cl,tv,.func (.func fm) #[] cm,.func (.func fb) #[] cb] n1a)).alloc (.cells (bkC b).toArray 60)).rangeAt (w.heap.size+1) 0 (bkC b):=zg (zc _ _ oe);go_enter q2a,q3a
 go_wp2_with (first
  |(refine qYz rfl _ _ rfl _ _ rfl _ _ (qYj (qYj hr _) _) underlying60 rfl (zu _ HC.o.2.2) ?_)
  |fail)
 show Calls _ _ _ ((((w.alloc (.cells #[.int .i64 (k:Int),.slice (some ⟨gs,0,none⟩) m cl,tv,.func (.func fm) #[] cm,.func (.func fb) #[] cb] n1a)).alloc (.cells (bkC b).toArray 60)).alloc (.cells d4a.toArray n5a)).alloc (.cells d4a.toArray n5a)) _;obtain⟨Z,hZ⟩:∃Z:List Value,Z=d4a:=⟨_,rfl⟩
 rw[<-hZ];have hZs:Hid (Z.toArray.size=n6a):=by show _=_;rw[hZ];rfl
 have hZl:Hid (Z.length=n6a):=by show _=_;rw[hZ];rfl
 have hsZ:Hid ((prog.info? n5a).map (·.size)=some Z.length):=by show _=_;rw[hZ];exact q7a
 have hsA:Hid ((prog.info? n5a).map (·.size)=some Z.toArray.size):=by show _=_;rw[hZ];exact q7a
 have hZ1:Hid ((Z.toArray).all (·.oneCell')=true):=by show _=_;rw[hZ];exact q8a
 have HZ:=qqh hZ;clear hZ;obtain⟨h1,h2,h3,h4,h5,h6⟩:=xK w (.cells #[.int .i64 (k:Int),.slice (some ⟨gs,0,none⟩) m cl,tv,.func (.func fm) #[] cm,.func (.func fb) #[] cb] n1a) (.cells (bkC b).toArray 60) (.cells Z.toArray n5a) (.cells Z.toArray n5a);clear hr;generalize (((w.alloc (.cells #[.int .i64 (k:Int),.slice (some ⟨gs,0,none⟩) m cl,tv,.func (.func fm) #[] cm,.func (.func fb) #[] cb] n1a)).alloc (.cells (bkC b).toArray 60)).alloc (.cells Z.toArray n5a)).alloc (.cells Z.toArray n5a)=w4 at*;refine(ru b HC.o.2.2 (H.o.2.1.keep h6 id)).mono ?_;rintro e w5 ⟨rfl,hb5⟩;have hu5:=qqb hb5;have g1:=(hu5.block _ (zd h1) id).trans h1;have g2:=(hu5.block _ (zd h2) id).trans h2;have g3:=(hu5.block _ (zd h3) id).trans h3;have g4:=(hu5.block _ (zd h4) id).trans h4;have hz5:=hu5.size;have H5:=Y7 g1 g2 g3 g4 (h6.trans hu5) h5 hz5;clear h1 h2 h3 h4 h5 h6 g1 g2 g3 g4 hu5 hb5 hz5;by_cases hsl:sealB b=b
 .have hsc:sealedC b=0:=if_pos hsl;rw[hsc];clear hsc;have HS:=qqh hsl;clear hsl;obtain⟨g1,g2,g3,g4,u5,z4,z5⟩:=H5.o;have r5:=zg g2;clear g1 g2 g3 g4 u5;go_wp2_with (first
   |(refine qYz rfl _ _ rfl _ _ rfl _ _ r5 underlying60 rfl (zu _ HC.o.2.2) ?_)
   |fail)
  refine(zeD b HC.o.2.2).mono ?_;rintro e w6 ⟨g,rfl,hR6,hge,hb6⟩;have HX:=Y2 hR6 hb6;clear hR6 hb6;go_wp2_with fail
  refine(zbH HX.o.1 1 de de de).mono ?_;rintro e w7 ⟨rfl,hR7,hU7⟩;obtain⟨kb,hkb⟩:=qqe (numB ((b.drop 0).take 1));rw[<-hkb];have HK:=qqh hkb;clear hkb;obtain⟨g1,g2,g3,g4,u5,z4,z5⟩:=H5.o;obtain⟨hs,hN,-,-,hss,hm⟩:=H.o;have u57:Upd (fun j=>j=g) w5 w7:=((uuo (S:=fun _=>False) HX.o.2).mono fE).trans hU7;have u7:Upd (fun j=>j=g) w w7:=(u5.mono fE).trans u57;have hM7:w.heap.size+4<=w7.heap.size:=by have:=u57.size;omega
  have gM:w.heap.size+4<=g:=oM;have m1:w7.cell? ⟨w.heap.size,1,none⟩=some (.slice (some ⟨gs,0,none⟩) m cl):=u57.j3 (za g1 1) oM;have a1:=(u57.block _ (zd g1) oM).trans g1;have a3:=(u57.block _ (zd g3) oM).trans g3;have a4:=(u57.block _ (zd g4) oM).trans g4;have gslt:gs<w.heap.size\/m=0:=by
   rcases Nat.eq_zero_or_pos m with h|h
   .exact .inr h
   .exact .inl (qYh w _ (hs 0 _ (ZA oM)))
  have hs7:∀i (hi:i<ss.length),w7.cell? ⟨gs,i,none⟩=some (.int .i64 (ss[i]:Int)):=fun i hi=>by
   have:=u7.j3 (hs i _ (ZA hi)) oM
   rwa[qXy]at this
  have hua:Upd (fun _=>False) w7 (w7.alloc (.cells (ints (List.replicate m 0)).toArray 3)):=(uur _ _).alloc _;have hgL:=zc w7 (.cells (ints (List.replicate m 0)).toArray 3) rfl;have hmk:=XD m oM w7;have hR8:=hR7.keep hua id;have hglt:=hR7.lt;have m18:(w7.alloc (.cells (ints (List.replicate m 0)).toArray 3)).cell? ⟨w.heap.size,1,none⟩=some (.slice (some ⟨gs,0,none⟩) m cl):=hua.j3 m1 id;have H8:=Y12 hua hgL hR8 a1 a3 a4 hs7 gslt u7 hss hm hN;clear g1 g2 g3 g4 u5 z4 hs hN hss hm u57 u7 a1 a3 a4 gslt hs7 hua hgL hR8 hU7 hR7 r5 z5;go_wp2
  clear hmk m1;generalize hW8:w7.alloc (.cells (ints (List.replicate m 0)).toArray 3)=w8 at*;have HW8:=qqh hW8;clear hW8;generalize hL:w7.heap.size=L at*;have HL:=qqh hL;clear hL;go_loopw[30] (fun s30 wr=>∃i:Nat,i<=m/\s30=.int .i64 i/\yS wr g b (1+(ss.take i).sum)/\wr.heap[L]?=some (.cells (ints (fillI (numsAt b 1 ss) i)).toArray 3 (0,0))/\Upd (fun j=>j=g\/j=L) w8 wr) (fun s30 _=>m-(intOf s30).toNat)
  case atStart=>exact⟨0,qXz _,rfl,by simpa using H8.o.2.2.1,by rw[H8.o.2.1];simp[fillI,natsI,zR,H8.o.2.2.2.2.2.2.2.2.2.2.1],uur _ _⟩
  case round=>
   obtain⟨i,hi,rfl,hR,hL,hu⟩:=hrel;obtain⟨hua,hgL,hR8,a1,a3,a4,hs7,gslt,u7,hss,hm,hN⟩:=H8.o;by_cases hlt:i<m
   .have hil:i<ss.length:=oM;have x1:wr.cell? ⟨gs,i,none⟩=some (.int .i64 (ss[i]:Int)):=hu.j3 (hua.j3 (hs7 i hil) id) oM;have hsi:=hss.1 ss[i] (qyv hil);obtain⟨t1,t2⟩:=Si ss hil;have hng:¬L=g:=oM;have hcx:∃v,wr.cell? ⟨L,i,none⟩=some v:=by
     rw[za hL];exact⟨_,qxe (by rw[qXi,xr,Qv _ (by rw[zR];omega),zR];omega)⟩
    have hnx:Hid ((ints (fillI (numsAt b 1 ss) i)).toArray.setIfInBounds i (.int .i64 ((numB ((b.drop (1+(ss.take i).sum)).take ss[i]):Nat):Int))=(ints (fillI (numsAt b 1 ss) (i+1))).toArray):=by
     show _=_;rw[qXe,XE,<-Vr b 1 ss i hil,Qw _ (by rw[zR];exact hil)]
    have hsum:Hid (1+(ss.take (i+1)).sum=1+(ss.take i).sum+ss[i]):=by show _=_;omega
    have b1:(0:Int)<=(i:Int)/\(i:Int)<(m:Int):=oM;have hbd:1+(ss.take i).sum+ss[i]<=60:=oM;have HX2:=Y6 hR hL hu hsi hbd hcx;clear hua hgL hR8 a1 a3 a4 hs7 gslt u7 hss hm hN t1 t2 hR hL hu hcx hbd hsi;obtain⟨b1,b2⟩:=b1;generalize ss[i]=si at*;go_wp2_with fail
    refine(zbH HX2.o.1 si HX2.o.2.2.2.1.1 HX2.o.2.2.2.1.2 HX2.o.2.2.2.2.1).mono ?_;rintro e w9 ⟨rfl,hR9,hU9⟩;have hL9:=(hU9.block L (zd HX2.o.2.1) hng).trans HX2.o.2.1;obtain⟨v0,hv0⟩:=HX2.o.2.2.2.2.2;have c9:=hU9.j3 hv0 hng;have z9:=zf hL9 i;have hL10:=zh hL9 i (.int .i64 ((numB ((b.drop (1+(ss.take i).sum)).take si):Nat):Int));rw[hnx.out]at hL10;have hR10:=hR9.keep (zi w9 L i (.int .i64 ((numB ((b.drop (1+(ss.take i).sum)).take si):Nat):Int))) (fun e=>hng e.symm);rw[<-hsum.out]at hR10;have hU10:Upd (fun j=>j=g\/j=L) w8 (w9.setCell ⟨L,i,none⟩ (.int .i64 ((numB ((b.drop (1+(ss.take i).sum)).take si):Nat):Int))):=
     HX2.o.2.2.1.trans ((hU9.mono (fun _ _ h=> .inl h)).trans ((zi _ _ _ _).mono (fun _ _ h=> .inr h)))
    have HZ:=Y3 hR10 hL10 hU10;clear hL9 hv0 hL10 hR10 hU10 hU9 hR9;go_wp2
    go_roundw
    case rel=>exact⟨i+1,oM,by go_num,HZ.o.1,HZ.o.2.1,HZ.o.2.2⟩
    case measure=>simp[intOf];omega
   .obtain rfl:i=m:=oM;rw[qXk oM]at hR;have hl5:i=(numsAt b 1 ss).length:=by rw[zR];omega
    rw[show fillI (numsAt b 1 ss) i=natsI (numsAt b 1 ss) by rw[hl5];exact Qx _]at hL;clear hl5;have u8r:Upd (fun j=>j=g\/j=L) w7 wr:=(hua.mono fE).trans hu;have hLw:w.heap.size+4<=L:=hM7;have hlw:Below w.heap.size w wr:=by
     refine zj (zj (qxl _ w) u7 (qXp _) (fun k e=>oM)) u8r (qXp _) (fun k e=>oM)
    have e1:=(u8r.block _ (zd a1) oM).trans a1;have e3:=(u8r.block _ (zd a3) oM).trans a3;have e4:=(u8r.block _ (zd a4) oM).trans a4;have hErr:∀W,Below wr.heap.size wr W->W.rangeAt (w.heap.size+1+1+1) 0 Z/\W.there (w.heap.size+1+1) 0 n6a/\Below w.heap.size w W:=fun W hW=>by
     have f3:=(hW.block _ (zd e3)).trans e3;refine⟨zg ((hW.block _ (zd e4)).trans e4),fun j hj=>?_,hlw.trans (hW.mono hlw.size)⟩;rw[za f3,zf f3];exact⟨by rw[qXy,qxe jT];rfl,rfl⟩
    have m0:wr.cell? ⟨w.heap.size,0,none⟩=some (.int .i64 (k:Int)):=za e1 0;have m3:wr.cell? ⟨w.heap.size,3,none⟩=some (.func (.func fm) #[] cm):=za e1 3;have m4:wr.cell? ⟨w.heap.size,4,none⟩=some (.func (.func fb) #[] cb):=za e1 4;have HE:=Y6 hErr m3 m4 hR (zg hL) hlw;obtain⟨rz,tz,hbz⟩:=hErr wr (qxl _ _);clear hua hgL hR8 a1 a3 a4 hs7 gslt u7 hss hm hN hR hL hu u8r hlw e1 e3 e4 hErr m3 m4;by_cases hkk:kb=k
    .have hq:((kb:Int)==(k:Int))=true:=by rw[hkk];simp
     have hq2:((kb:Int) !=(k:Int))=false:=by rw[hkk];simp
     have HKK:=qqh hkk;clear hkk rz tz hbz;go_wp2_with fail
     refine(zgp HE.o.2.2.2.1).mono ?_;rintro e w10 ⟨rfl,hb10⟩;obtain⟨rz,tz,hbz⟩:=HE.o.1 w10 hb10;have m3:=(uuo (S:=fun _=>False) hb10).j3 HE.o.2.1 id;have m4:=(uuo (S:=fun _=>False) hb10).j3 HE.o.2.2.1 id;have rL:=Below.range hb10 HE.o.2.2.2.2.1;have H10:=Y3 hb10 rL m4;clear rL m4 hb10;have HBz:=qqh hbz;clear hbz;by_cases hen:endB b (1+ss.sum)=true
     .have he0:endC b (1+ss.sum)=0:=if_pos hen;rw[he0];clear he0 rz tz;have HEN:=qqh hen;clear hen;go_wp2_with fail
      refine(H.o.2.2.1 w10 L i rfl HBz.out H10.o.2.1).mono ?_;rintro e w11 ⟨rfl,hb11⟩;obtain⟨rz,tz,hbz11⟩:=HE.o.1 w11 (H10.o.1.trans (hb11.mono H10.o.1.size));have m4:=(uuo (S:=fun _=>False) hb11).j3 H10.o.2.2 id;have rL:=Below.range hb11 H10.o.2.1;have HBz11:=qqh hbz11;have HRL:=qqh rL;have HBz11b:=qqh hb11;clear rL hbz11 hb11;cases mb with
      |true=>
       have HR:Hid (okGet b k ss true=true):=by
        show _=_;simp only[okGet,HS.o,HEN.o,decide_true,qxp,Bool.and_true,decide_eq_true_eq];have:=HK.o;rw[qyb]at this;rw[<-this,HKK.o]
       clear rz tz;go_wp2_with fail
       refine(H.o.2.2.2.1 HR.o w11 L i rfl HBz11.out HRL.o).mono ?_;rintro e w12 ⟨rfl,hb12⟩;obtain⟨-,tz,hbz12⟩:=HE.o.1 w12 ((H10.o.1.trans ((HBz11b.out).mono H10.o.1.size)).trans (hb12.mono (by have:=H10.o.1.size;have:=HBz11b.out.size;omega)));have hdl:ds.length=n6a:=by have h1:=HC.o.1;rw[q7a]at h1;injection h1 with h1;exact h1.symm
       have hst:w12.there (w.heap.size+1+1) 0 ds.toArray.size:=by rw[show ds.toArray.size=n6a by simpa using hdl];exact tz
       have hst2:w12.there (w.heap.size+1+1) 0 ds.length:=by rw[hdl];exact tz
       have hsz2:(prog.info? n5a).map (·.size)=some ds.toArray.size:=by rw[show ds.toArray.size=n6a by simpa using hdl];exact q7a
       have HST:=Y4 hst hsz2 hst2 hbz12;clear hst hsz2 hst2 hdl hbz12 tz hb12;go_wp2_with (first
        |(refine qZb rfl _ _ _ rfl _ _ ds.toArray rfl rfl HST.o.1 HST.o.2.1 (qYo HC.o.2.1) ?_)
        |fail)
       exact qYq (zp rfl _ _ (w.heap.size+1+1) 0 ds _ rfl (qYl _ _ _ _ HST.o.2.2.1) JL rfl HC.o.1) rfl
        ⟨⟨ds,fun _=>rfl,fun h=>jG,by rw[show xu b k ss true=0 from if_pos HR.o];rfl⟩,zj HST.o.2.2.2 (zn _ (w.heap.size+1+1) 0 _) (qXp _) (fun k e=>oM)⟩
      |false=>
       have HR:Hid (okGet b k ss false=false):=by show _=_;simp[okGet]
       go_wp2_with (first
        |(refine qYz rfl _ _ rfl _ _ rfl _ _ rz JL rfl hsZ.out ?_)
        |(refine qZb rfl _ _ _ rfl _ _ Z.toArray rfl rfl (by rw[hZs.out];exact tz) hsA.out hZ1.out ?_)
        |fail)
       exact qYq (zp rfl _ _ (w.heap.size+1+1) 0 Z _ rfl (qYl _ _ _ _ (by first|(rw[hZs.out];exact tz)|(rw[hZl.out];exact tz))) JL rfl hsZ.out) rfl
        ⟨⟨_,fun h=>jG,fun _=>rfl,by rw[rI HS.o HR.o,HZ.o];rfl⟩,zj HBz11.out (zn _ (w.heap.size+1+1) 0 _) (qXp _) (fun k e=>oM)⟩
     .have he0:endC b (1+ss.sum)=12:=if_neg hen;rw[he0];clear he0;have HR:Hid (okGet b k ss mb=false):=by show _=_;simp[okGet,hen]
      clear hen;go_wp2_with (first
       |(refine qYz rfl _ _ rfl _ _ rfl _ _ rz JL rfl hsZ.out ?_)
       |(refine qZb rfl _ _ _ rfl _ _ Z.toArray rfl rfl (by rw[hZs.out];exact tz) hsA.out hZ1.out ?_)
       |fail)
      exact qYq (zp rfl _ _ (w.heap.size+1+1) 0 Z _ rfl (qYl _ _ _ _ (by first|(rw[hZs.out];exact tz)|(rw[hZl.out];exact tz))) JL rfl hsZ.out) rfl
       ⟨⟨_,fun h=>jG,fun _=>rfl,by rw[rI HS.o HR.o,HZ.o];rfl⟩,zj HBz.out (zn _ (w.heap.size+1+1) 0 _) (qXp _) (fun k e=>oM)⟩
    .have hq:((kb:Int)==(k:Int))=false:=by rw[qYp];omega
     have hq2:((kb:Int) !=(k:Int))=true:=by rw[bne_iff_ne];omega
     have HR:Hid (okGet b k ss mb=false):=by
      show _=_;have:=HK.o;rw[qyb]at this;simp[okGet,<-this,hkk]
     have HBz:=qqh hbz;clear hkk hbz;go_wp2_with (first
      |(refine qYz rfl _ _ rfl _ _ rfl _ _ rz JL rfl hsZ.out ?_)
      |(refine qZb rfl _ _ _ rfl _ _ Z.toArray rfl rfl (by rw[hZs.out];exact tz) hsA.out hZ1.out ?_)
      |fail)
     exact qYq (zp rfl _ _ (w.heap.size+1+1) 0 Z _ rfl (qYl _ _ _ _ (by first|(rw[hZs.out];exact tz)|(rw[hZl.out];exact tz))) JL rfl hsZ.out) rfl
      ⟨⟨_,fun h=>jG,fun _=>rfl,by rw[rI HS.o HR.o,HZ.o];rfl⟩,zj HBz.out (zn _ (w.heap.size+1+1) 0 _) (qXp _) (fun k e=>oM)⟩
 .have hsc:sealedC b=13:=if_neg hsl;have hres:=Vs (k:=k) (ss:=ss) (mb:=mb) hsl;rw[hsc];have HR:=qqh hres;clear hsc hsl hres;obtain⟨g1,g2,g3,g4,u5,z4,z5⟩:=H5.o;have r4:=zg g4;have hth:w5.there (w.heap.size+1+1) 0 n6a:=fun j hj=>by
   rw[za g3,zf g3];exact⟨by rw[qXy,qxe jT];rfl,rfl⟩
  have HU:=qqh u5;clear g1 g2 g3 g4 u5 z4 z5;go_wp2_with (first
   |(refine qYz rfl _ _ rfl _ _ rfl _ _ r4 JL rfl hsZ.out ?_)
   |(refine qZb rfl _ _ _ rfl _ _ Z.toArray rfl rfl (by rw[hZs.out];exact hth) hsA.out hZ1.out ?_)
   |fail)
  refine qYq (zp rfl _ _ (w.heap.size+1+1) 0 Z _ rfl (qYl _ _ _ _ (by first|(rw[hZs.out];exact hth)|(rw[hZl.out];exact hth))) JL rfl hsZ.out) rfl
   ⟨⟨_,fun h=>(by rw[HR.o.1]at h;cases h),fun _=>rfl,by rw[HR.o.2,HZ.o];rfl⟩,zj (Upd.below HU.o) (zn w5 (w.heap.size+1+1) 0 _) (qXp _) (fun k e=>oM)⟩):P:=h
def qE:List Value:=[Value.int .i64 0,.int .i64 0,.int .i64 0,.int .i64 0,.int .i64 0,.bool false,.int .i64 0]
theorem YJ:(qE.toArray).all (·.oneCell')=true:=by simp[qE,Value.oneCell']
namespace fGetR
abbrev n1a:Nat:=404
theorem q2a:type_of% @func275:= @func275
theorem q3a:type_of% @ntmps275:= @ntmps275
abbrev d4a:= @qE
abbrev n5a:Nat:=307
abbrev n6a:Nat:=7
theorem q7a:type_of% @infoThR:= @infoThR
theorem q8a:type_of% @YJ:= @YJ
theorem JL:type_of% @underlying307:= @underlying307
end fGetR
open fGetR in
theorem JM(b:Bk)(hb:b.length=64)(k:Nat)(ss:List Nat)(hss:(∀p∈ss,1<=p/\p<=7)/\ss.sum<=59)(m:Nat)(hm:ss.length=m)(q:m<=100)(gs cl:Nat)(fm fb:Nat)(cm cb:Array Value)(tv:Value)(mb:Bool)(ds:List Value)
  (hds:(prog.info? 307).map (·.size)=some ds.length) (hd1:∀v∈ds,v.oneCell'=true) (hs:w.rangeAt gs 0 (ints (natsI ss))) (hN:Nib w)
  (s:∀a w,(callFunc fm a).run prog w=.ok (.enter fm a) w) (entB:∀a w,(callFunc fb a).run prog w=.ok (.enter fb a) w)
  (hmay:∀W gl c,c=m->Below w.heap.size w W->W.rangeAt gl 0 (ints (natsI (numsAt b 1 ss)))->Calls prog fm (#[.slice (some ⟨gl,0,none⟩) m c]++cm) W fun e n=>e=.returned (.bool mb)/\Below W.heap.size W n)
  (hbuild:okGet b k ss mb=true->∀W gl c,c=m->Below w.heap.size w W->W.rangeAt gl 0 (ints (natsI (numsAt b 1 ss)))->Calls prog fb (#[.slice (some ⟨gl,0,none⟩) m c]++cb) W fun e n=>e=.returned (.agg ds.toArray)/\Below W.heap.size W n):
  Calls prog 275 #[.agg #[.int .i64 (k:Int),.slice (some ⟨gs,0,none⟩) m cl,tv,.func (.func fm) #[] cm,.func (.func fb) #[] cb],.agg (bkC b).toArray] w
   (yq w (okGet b k ss mb) ds qE (xu b k ss mb)):=wX
def zeroS:List Value:=[Value.int .i64 0,.int .i64 0,.int .i64 0,.int .i64 0,.int .i64 0,.int .i64 0,.int .i64 0]
theorem sJ:(zeroS.toArray).all (·.oneCell')=true:=by simp[zeroS,Value.oneCell']
namespace fGetS
abbrev n1a:Nat:=141
theorem q2a:type_of% @func198:= @func198
theorem q3a:type_of% @ntmps198:= @ntmps198
abbrev d4a:= @zeroS
abbrev n5a:Nat:=44
abbrev n6a:Nat:=7
theorem q7a:type_of% @yv:= @yv
theorem q8a:type_of% @sJ:= @sJ
theorem JL:type_of% @underlying44:= @underlying44
end fGetS
open fGetS in
theorem JN(b:Bk)(hb:b.length=64)(k:Nat)(ss:List Nat)(hss:(∀p∈ss,1<=p/\p<=7)/\ss.sum<=59)(m:Nat)(hm:ss.length=m)(q:m<=100)(gs cl:Nat)(fm fb:Nat)(cm cb:Array Value)(tv:Value)(mb:Bool)(ds:List Value)
  (hds:(prog.info? 44).map (·.size)=some ds.length) (hd1:∀v∈ds,v.oneCell'=true) (hs:w.rangeAt gs 0 (ints (natsI ss))) (hN:Nib w)
  (s:∀a w,(callFunc fm a).run prog w=.ok (.enter fm a) w) (entB:∀a w,(callFunc fb a).run prog w=.ok (.enter fb a) w)
  (hmay:∀W gl c,c=m->Below w.heap.size w W->W.rangeAt gl 0 (ints (natsI (numsAt b 1 ss)))->Calls prog fm (#[.slice (some ⟨gl,0,none⟩) m c]++cm) W fun e n=>e=.returned (.bool mb)/\Below W.heap.size W n)
  (hbuild:okGet b k ss mb=true->∀W gl c,c=m->Below w.heap.size w W->W.rangeAt gl 0 (ints (natsI (numsAt b 1 ss)))->Calls prog fb (#[.slice (some ⟨gl,0,none⟩) m c]++cb) W fun e n=>e=.returned (.agg ds.toArray)/\Below W.heap.size W n):
  Calls prog 198 #[.agg #[.int .i64 (k:Int),.slice (some ⟨gs,0,none⟩) m cl,tv,.func (.func fm) #[] cm,.func (.func fb) #[] cb],.agg (bkC b).toArray] w
   (yq w (okGet b k ss mb) ds zeroS (xu b k ss mb)):=wX
def uv:List Value:=[Value.int .i64 0,.int .i64 0,.int .i64 0,.int .i64 0,.int .i64 0,.int .i64 0,.bool false,.int .i64 0,.int .i64 0,.int .i64 0,.bool false,.int .i64 0,.int .i64 0,.int .i64 0,.bool false,.int .i64 0,.int .i64 0,.int .i64 0,.bool false,.int .i64 0]
theorem YK:(uv.toArray).all (·.oneCell')=true:=by simp[uv,Value.oneCell']
namespace fGetP
abbrev n1a:Nat:=393
theorem q2a:type_of% @func411:= @func411
theorem q3a:type_of% @ntmps411:= @ntmps411
abbrev d4a:= @uv
abbrev n5a:Nat:=297
abbrev n6a:Nat:=20
theorem q7a:type_of% @wP:= @wP
theorem q8a:type_of% @YK:= @YK
theorem JL:type_of% @underlying297:= @underlying297
end fGetP
open fGetP in
theorem JO(b:Bk)(hb:b.length=64)(k:Nat)(ss:List Nat)(hss:(∀p∈ss,1<=p/\p<=7)/\ss.sum<=59)(m:Nat)(hm:ss.length=m)(q:m<=100)(gs cl:Nat)(fm fb:Nat)(cm cb:Array Value)(tv:Value)(mb:Bool)(ds:List Value)
  (hds:(prog.info? 297).map (·.size)=some ds.length) (hd1:∀v∈ds,v.oneCell'=true) (hs:w.rangeAt gs 0 (ints (natsI ss))) (hN:Nib w)
  (s:∀a w,(callFunc fm a).run prog w=.ok (.enter fm a) w) (entB:∀a w,(callFunc fb a).run prog w=.ok (.enter fb a) w)
  (hmay:∀W gl c,c=m->Below w.heap.size w W->W.rangeAt gl 0 (ints (natsI (numsAt b 1 ss)))->Calls prog fm (#[.slice (some ⟨gl,0,none⟩) m c]++cm) W fun e n=>e=.returned (.bool mb)/\Below W.heap.size W n)
  (hbuild:okGet b k ss mb=true->∀W gl c,c=m->Below w.heap.size w W->W.rangeAt gl 0 (ints (natsI (numsAt b 1 ss)))->Calls prog fb (#[.slice (some ⟨gl,0,none⟩) m c]++cb) W fun e n=>e=.returned (.agg ds.toArray)/\Below W.heap.size W n):
  Calls prog 411 #[.agg #[.int .i64 (k:Int),.slice (some ⟨gs,0,none⟩) m cl,tv,.func (.func fm) #[] cm,.func (.func fb) #[] cb],.agg (bkC b).toArray] w
   (yq w (okGet b k ss mb) ds uv (xu b k ss mb)):=wX
theorem wY{P:Prop}(h:P:=by
 have HN:=qqh hN;have Hb:=qqh hb;clear hN hb;go_enter q1b,q2b
 go_wp2_with fail
 change Code.wp _ _ _ _ ((w.alloc (.cells (bkC b).toArray 60)).alloc (.cells d3b.toArray n4b))
 have hr:((w.alloc (.cells (bkC b).toArray 60)).alloc (.cells d3b.toArray n4b)).rangeAt w.heap.size 0 (bkC b):=qYj (zg (zc w _ rfl)) _;have hg:((w.alloc (.cells (bkC b).toArray 60)).alloc (.cells d3b.toArray n4b)).heap[w.heap.size+1]?=some (.cells d3b.toArray n4b):=zc _ _ oe;have hu:Upd (fun _=>False) w ((w.alloc (.cells (bkC b).toArray 60)).alloc (.cells d3b.toArray n4b)):=((uur _ w).alloc _).alloc _;generalize (w.alloc (.cells (bkC b).toArray 60)).alloc (.cells d3b.toArray n4b)=w2 at*;have hb2:Below w.heap.size w w2:=Upd.below hu;refine qZc (S:=fun W=>W.rangeAt w.heap.size 0 (bkC b)) kR oN (fun hHeld=>?_);refine Wl.l 1 (fun w h=>h) underlying60 (zu _ Hb.out) hHeld ?_;refine Wl.r 0 (fun K hK=>?_);go_simp
 refine(q5b _).mono ?_;rintro e w3 ⟨gs,gt,rfl,hF,hb3⟩;have hb3':Below w2.heap.size w2 w3:=yy hb3;refine hK.o _ _ (Below.range hb3 hHeld) (fun hHeld2=>?_);clear hK K;refine Wl.r 2 (fun K hK=>?_);go_simp
 refine(q6b hF ((HN.o.keep hu id).below hb3') b Hb.out).mono ?_;rintro e w4 ⟨⟨rs,hr1,hr2,rfl⟩,hb4⟩;have hb4':Below w2.heap.size w2 w4:=hb3'.trans (hb4.mono hb3'.size);have hg4:=(hb4'.block _ (zd hg)).trans hg;have hth:w4.there (w.heap.size+1) 0 n7b:=fun j hj=>by
  rw[za hg4,zf hg4];exact⟨by rw[qXy,qxe (by rw[qXi];exact hj)];rfl,rfl⟩
 have hrl:rs.length=n7b/\∀v∈rs,v.oneCell'=true:=by
  cases hk:d8b b with
  |true=>rw[hr1 hk];exact⟨q9b _,zdg _⟩
  |false=>rw[hr2 hk];exact⟨rfl,qxv.1 (by simpa using q11b:d3b.all (·.oneCell')=true)⟩
 have hst:w4.there (w.heap.size+1) 0 rs.toArray.size:=by rw[show rs.toArray.size=n7b by simpa using hrl.1];exact hth
 have hst2:w4.there (w.heap.size+1) 0 rs.length:=by rw[hrl.1];exact hth
 have hsz2:(prog.info? n4b).map (·.size)=some rs.toArray.size:=by rw[show rs.toArray.size=n7b by simpa using hrl.1];exact zaF
 have hsz3:(prog.info? n4b).map (·.size)=some rs.length:=by rw[hrl.1];exact zaF
 have hU5:Below w.heap.size w (w4.setCells (w.heap.size+1) 0 rs):=zj (hb2.trans (hb4'.mono hu.size)) (zn w4 (w.heap.size+1) 0 _) (qXp _) (fun k e=>oM);refine hK.o _ _ (Below.range hb4 hHeld2) (fun hHeld3=>?_);clear hK K;refine Wl.i [3,4] ?_;iterate 2 refine Wl.t hHeld3 ?_
 refine Wl.o ?_;refine Wl.r 5 (fun K hK=>?_);rw[if_pos oE];refine qZd _ _ _ rfl _ _ (List.toArray _) rfl rfl (hst) (hsz2) (qYo hrl.2) ?_;simp only[Act.put,qXe];refine hK.o _ _ ((zn w4 (w.heap.size+1) 0 rs).range hHeld3 oM) (fun hHeld4=>?_);clear hK K;refine Wl.r 6 (fun K hK=>?_);go_simp
 refine hK.o _ _ (hHeld4) (fun _=>?_);clear hK K;refine Wl.d ?_;have HE:=Y5 hU5 hst2 hsz3 hr1 hr2;clear hst hst2 hsz2 hsz3 hU5 hth hg4 hb4 hb4' hb3 hb3' hHeld hHeld2 hHeld3 hHeld4 hF hr hg hu hb2 hr1 hr2 hrl;go_wp2
 exact qYq (zp rfl _ _ (w.heap.size+1) 0 rs _ rfl (qYl _ _ _ _ HE.o.2.1) zdh rfl HE.o.2.2.1) rfl ⟨⟨rs,HE.o.2.2.2.1,HE.o.2.2.2.2,rfl⟩,HE.o.1⟩):P:=h
def numsR(b:Bk):List Nat:=numsAt b 1 SG
def okR(b:Bk):Bool:=okGet b 2 SG (mayR (natsI (numsR b)))
def cdR(b:Bk):Int:=xu b 2 SG (mayR (natsI (numsR b)))
def Wu(w:World)(b:Bk):Ending->World->Prop:=yq w (okR b) (dsR (natsI (numsR b))) qE (cdR b)
theorem ZP{w:World}{gs a:Nat}(q:SH w gs a)(s:Nib w)(b:Bk)(v:b.length=64):
  Calls prog 275 #[VC gs a,.agg (bkC b).toArray] w (Wu w b):=by
 obtain⟨A,J,E,G⟩:=q;refine JM (w:=w) b v 2 SG ⟨by simp[SG],de⟩ 7 rfl de gs 7 350 351 #[.pointer (some ⟨a,0,none⟩)] #[] (.func (.func 349) #[] #[]) (mayR (natsI (numsR b))) (dsR (natsI (numsR b)))
  (by rw[qU];exact infoThR) (wQ _) A s (fun _ _=>rfl) (fun _ _=>rfl) ?_ ?_
 .intro H gl c j n p;subst j;exact rQ _ ju (qXp _) de ((uuo (S:=fun _=>False) n).j3 E id) (G.below n) p
 .intro _ H gl c j n p;subst j;exact zcw _ ju p
namespace fGetR2
theorem q1b:type_of% @func204:= @func204
theorem q2b:type_of% @ntmps204:= @ntmps204
abbrev d3b:= @qE
abbrev n4b:Nat:=307
theorem q5b:type_of% @xV:= @xV
theorem q6b:type_of% @ZP:= @ZP
abbrev n7b:Nat:=7
abbrev d8b:= @okR
theorem q9b:type_of% @qU:= @qU
theorem zdg:type_of% @wQ:= @wQ
theorem q11b:type_of% @YJ:= @YJ
theorem zaF:type_of% @infoThR:= @infoThR
theorem zdh:type_of% @underlying307:= @underlying307
end fGetR2
open fGetR2 in
theorem JP(hN:Nib w)(b:Bk)(hb:b.length=64):
  Calls prog 204 #[.agg (bkC b).toArray] w (Wu w b):=wY
def numsS(b:Bk):List Nat:=numsAt b 1 szS
def okS(b:Bk):Bool:=okGet b 1 szS (mayS (natsI (numsS b)))
def cdS(b:Bk):Int:=xu b 1 szS (mayS (natsI (numsS b)))
def Wv(w:World)(b:Bk):Ending->World->Prop:=yq w (okS b) (dsS (natsI (numsS b))) zeroS (cdS b)
theorem ZQ{w:World}{gs a:Nat}(q:JJ w gs a)(s:Nib w)(b:Bk)(v:b.length=64):
  Calls prog 198 #[VX gs a,.agg (bkC b).toArray] w (Wv w b):=by
 obtain⟨A,E⟩:=q;refine JN (w:=w) b v 1 szS ⟨by simp[szS],de⟩ 7 rfl de gs 7 194 127 #[.pointer (some ⟨a,0,none⟩)] #[] (.func (.func 125) #[] #[]) (mayS (natsI (numsS b))) (dsS (natsI (numsS b)))
  (by rw[re];exact yv) (rf _) A s (fun _ _=>rfl) (fun _ _=>rfl) ?_ ?_
 .intro G gl c j p n;subst j;exact XK _ jn (qXp _) de (E.below p) n
 .intro _ G gl c j p n;subst j;exact zdf _ jn n
namespace fGetS2
theorem q1b:type_of% @func133:= @func133
theorem q2b:type_of% @ntmps133:= @ntmps133
abbrev d3b:= @zeroS
abbrev n4b:Nat:=44
theorem q5b:type_of% @wW:= @wW
theorem q6b:type_of% @ZQ:= @ZQ
abbrev n7b:Nat:=7
abbrev d8b:= @okS
theorem q9b:type_of% @re:= @re
theorem zdg:type_of% @rf:= @rf
theorem q11b:type_of% @sJ:= @sJ
theorem zaF:type_of% @yv:= @yv
theorem zdh:type_of% @underlying44:= @underlying44
end fGetS2
open fGetS2 in
theorem JQ(hN:Nib w)(b:Bk)(hb:b.length=64):
  Calls prog 133 #[.agg (bkC b).toArray] w (Wv w b):=wY
def Ww(w:World)(b:Bk):Ending->World->Prop:=yq w (okP b) (dsP (natsI (numsP b))) uv (cdP b)
theorem ZR{w:World}{gs a:Nat}(q:SJ w gs a)(s:Nib w)(b:Bk)(v:b.length=64):
  Calls prog 411 #[VD gs a,.agg (bkC b).toArray] w (Ww w b):=by
 obtain⟨A,J,E,G⟩:=q;refine JO (w:=w) b v 3 UV ⟨by simp[UV],de⟩ 20 rfl de gs 20 344 346 #[.pointer (some ⟨a,0,none⟩)] #[] (.func (.func 342) #[] #[]) (mayP (natsI (numsP b))) (dsP (natsI (numsP b)))
  (by rw[vT];exact wP) (vU _) A s (fun _ _=>rfl) (fun _ _=>rfl) ?_ ?_
 .intro H gl c j n p;subst j;exact rR _ jq (qXp _) de ((uuo (S:=fun _=>False) n).j3 E id) (G.below n) p
 .intro _ H gl c j n p;subst j;exact zcx _ jq p (qXp _) de
namespace fGetP2
theorem q1b:type_of% @func348:= @func348
theorem q2b:type_of% @ntmps348:= @ntmps348
abbrev d3b:= @uv
abbrev n4b:Nat:=297
theorem q5b:type_of% @vS:= @vS
theorem q6b:type_of% @ZR:= @ZR
abbrev n7b:Nat:=20
abbrev d8b:= @okP
theorem q9b:type_of% @vT:= @vT
theorem zdg:type_of% @vU:= @vU
theorem q11b:type_of% @YK:= @YK
theorem zaF:type_of% @wP:= @wP
theorem zdh:type_of% @underlying297:= @underlying297
end fGetP2
open fGetP2 in
theorem Wy(hN:Nib w)(b:Bk)(hb:b.length=64):
  Calls prog 348 #[.agg (bkC b).toArray] w (Ww w b):=wY
def JR(n k:Nat)(b:Bk):Bool:=okR b&&(decide (((numsR b).getD 0 0-1)%n=k)&&decide ((numsR b).getD 1 0=((numsR b).getD 0 0-1)/n))
def scL(n k:Nat)(b:Bk):List (List Nat):=if JR n k b then[numsR b]else[]
def scanTo(F:List Bk)(O:List (Nat×Bk))(base n:Nat):Nat->List (List Nat)
 |0=>[]
 |k+1=>scanTo F O base n k++scL n k (curB F O (base+k))
def recCs(r:List Nat):List Value:=dsR (natsI r)
theorem wD(F:List Bk)(O:List (Nat×Bk))(base n:Nat):∀k,(scanTo F O base n k).length<=k
 |0=>qXp _
 |k+1=>by
  have:=wD F O base n k;rw[scanTo,qyz];unfold scL;split<;>simp<;>omega
theorem sK(h:okR b=true):1<=(numsR b).getD 0 0/\(numsR b).getD 0 0<=1099511627776/\(numsR b).getD 1 0<=1099511627776/\(numsR b).getD 2 0<=1/\(numsR b).getD 3 0<=4095/\(numsR b).getD 4 0<=1023/\(numsR b).getD 5 0<=1/\(numsR b).getD 6 0<=4294967295:=by
 unfold okR okGet at h;simp only[qxo]at h;have j:=h.2.2.2;unfold mayR at j;rw[qxo]at j;have G:(natsI (numsR b)).length=7:=by simp[natsI,numsR,zR,SG]
 have a:=j.1;have e:∀i (n:i<(natsI (numsR b)).length),(natsI (numsR b))[i]=((numsR b).getD i 0:Nat):=fun i n=>by
  simp only[natsI,qyu];rw[qyg,qyk (by simpa[natsI]using n)];rfl
 have p:=zG a (i:=0) de oM;have w1:=zG a (i:=1) de oM;have q:=zG a (i:=2) de oM;have s:=zG a (i:=3) de oM;have v:=zG a (i:=4) de oM;have A:=zG a (i:=5) de oM;have E:=zG a (i:=6) de oM;rw[e]at p w1 q s v A E;simp only[bndR,qyt,qys]at p w1 q s v A E;omega
theorem zdi(h:okR b=false):¬cdR b=0:=by
 unfold okR at h;unfold cdR xu;rw[h];split
 .next h=>cases h
 .split<;>decide
theorem zdj(h:okR b=true):cdR b=0:=by
 unfold okR at h;unfold cdR xu;rw[h];rfl
theorem yK(a:List Nat)(i:Nat):(natsI a).getD i 0=(a.getD i 0:Nat):=by
 simp only[natsI,qyg,qyn];cases a[i]?<;>rfl
theorem Tz:∃i z,prog.info? 307=some i/\i.zero=some z/\z.cells.size=7/\i.size=7/\i.bytes=56:=by
 have h:(prog.info? 307).map (fun i=>(i.zero.map (·.cells.size),i.size,i.bytes))=some (some 7,7,56):=kR;obtain⟨i,j,a⟩:=qYc.1 h;simp only[qYe]at a;obtain⟨z,n,p⟩:=qYc.1 a.1;exact⟨i,z,j,n,p,a.2.1,a.2.2⟩
def ScI(D:Nat->Prop)(w0:World)(b p4:Nat)(F:List Bk)(O:List (Nat×Bk))(L:List (List Nat))(W:World):Prop:=
 Upd (fun j=>D j\/j=p4) w0 W/\∃v S1,W.heap[p4]?=some (.cells #[v] 215 (0,0))/\Sl W 307 7 v L.length (L.flatMap recCs)/\From w0.heap.size v/\
  Dv S1 W b F O []/\(∀j,S1 j->D j)/\(∀j,S1 j->j<W.heap.size)/\∀g,v.ownBlock=some g->¬S1 g
theorem ScI.new{h W j:World}{b:Nat}(a:ScI D h b p4 F O L W)(hu:Upd (fun _=>False) W j):ScI D h b p4 F O L j:=by
 obtain⟨h1,n,p,h2,q,s,v,A,E,G⟩:=a;exact⟨h1.trans (hu.mono fE),n,p,hu.j4 h2,q.keep hu (fun _ _ a=>a),s,v.keep hu (fun _ _ a=>a),A,fun H J=>qXs (E H J) hu.size,G⟩
theorem zfm{A W:World}{b ay az aA:Nat}{base n:Nat}(h:ScI D A b p4 F O L W)(an:∀a,A.heap.size<=a->D a)(E:p4<A.heap.size/\¬D p4)
  (h1:A.cell? ⟨ay,0,none⟩=some (.pointer (some ⟨b,0,none⟩))/\¬D ay/\ay≠p4) (h2:A.cell? ⟨az,0,none⟩=some (.int .i64 (n:Int))/\¬D az/\az≠p4) (ag:A.cell? ⟨aA,0,none⟩=some (.int .i64 (base:Int))/\¬D aA/\aA≠p4)
  (aT:k<n) (c9:n<=1024) (cb:base+n<=F.length) (cc:L.length<=1024) (bb:Nib A) (aU:¬D 0/\0≠p4):
  Calls prog 203 #[.int .i64 ((base:Int)+(k:Int)),.pointer (some ⟨ay,0,none⟩),.pointer (some ⟨az,0,none⟩),.pointer (some ⟨aA,0,none⟩),.pointer (some ⟨p4,0,none⟩)] W fun e bN=>
   e=.returned (.int .i64 0)/\ScI D A b p4 F O (L++scL n k (curB F O (base+k))) bN:=by
 obtain⟨a7,ao,aV,ap,hsl,v,J,ah,aK,aq⟩:=h;have cd:=J.good.fl;have c1:W.cell? ⟨ay,0,none⟩=some (.pointer (some ⟨b,0,none⟩)):=a7.j3 h1.1 (fun h=>h.elim h1.2.1 h1.2.2);have aL:Nib W:=bb.keep a7 (fun h=>h.elim aU.1 aU.2);have bc:=qqh (ux (S:=fun a=>aV a\/W.heap.size<=a) (J.wide (fun _ h=> .inl h)) (fun _ h=> .inr h) (base+k) oM);rw[show((base+k:Nat):Int)=(base:Int)+(k:Int) by simp]at bc;have aB:=Y14 a7 ap hsl v J ah aK aq aL an E h1 h2 ag;clear a7 ap hsl v J ah aK aq aL an E h1 h2 ag bb;go_enter func203,ntmps203
 go_wp2_with fail
 refine bc.o.mono ?_;rintro e aM ⟨y,bO,rfl,hy,bd,aW,T,U⟩;have bP:bO=0:=by rw[bd];rfl
 have aC:y=curB F O (base+k):=by rw[hy];rfl
 subst bP;obtain⟨aX,aN⟩:=qqe (aM.alloc (.cells (bkC y).toArray 60));have a8:=qqu aN;have be:=qqg aN;have aY:=zg be;obtain⟨ce,aZ⟩:=qqe (aM.heap.size);rw[<-aZ]at aY;have bQ:(bkC y).length=64:=by rw[zm,aW]
 have bf:=zu y aW;have aO:W.heap.size<=aX.heap.size:=qXr U.size a8.size;have bg:Nib aX:=(aB.o.2.2.2.2.2.2.2.2.1.keep U (fun h=>by
  rcases h with h|h
  .exact aU.1 (aB.o.2.2.2.2.2.1 _ h)
  .have:=aB.o.2.2.2.2.2.2.2.2.1.lt;omega)).keep a8 id
 have bR:=qqh (JP bg y aW);have bh:=Y2 aN aZ;have bS:=Y5 T U a8 aC aO;clear T U a8 aC aO aN aZ be bg hy bd;go_upto_region 4 with(first
  |(refine zk rfl _ _ _ rfl _ _ (bkC y) rfl rfl (by rw[bQ];rfl) bf (zx y) ?_)
  |fail)
 rw[<-bh.o.1,<-bh.o.2];go_wp2_with (first
  |(refine qYz rfl _ _ rfl _ _ rfl _ _ aY underlying60 rfl bf ?_)
  |fail)
 refine bR.o.mono ?_;rintro e bi ⟨⟨M,aa,b0,rfl⟩,b1⟩;have ai:M.length=7/\∀ao∈M,ao.oneCell'=true:=by
  cases aT:okR y with
  |true=>rw[aa aT];exact⟨qU _,wQ _⟩
  |false=>rw[b0 aT];exact⟨rfl,qxv.1 (by simp[qE,Value.oneCell']:qE.all (·.oneCell')=true)⟩
 obtain⟨j,aD⟩:=qqe (bi.alloc (.cells M.toArray 307));have bj:Upd (fun _=>False) aX j:=by rw[aD];exact(uuo b1).alloc _
 have aj:=qqg aD;obtain⟨aE,aP⟩:=qqe (bi.heap.size);rw[<-aP]at aj;have cf:j.heap.size=aE+1:=by rw[aD,aP];simp
 have ak:=Y3 aD aP ai;obtain⟨T,U,a8,aC,aO⟩:=bS.o;obtain⟨a7,ap,hsl,v,J,ah,aK,aq,aL,an,E,h1,h2,ag⟩:=aB.o;have ar:Upd (fun _=>False) aM j:=a8.trans bj;have au:=a7.size;have bn:¬(aV p4\/W.heap.size<=p4):=fun h=>h.elim (fun h=>E.2 (ah _ h)) (fun h=>oM);have G:=ar.j4 ((U.block p4 (zd ap) bn).trans ap);have ab:=(hsl.keep U (fun g p h=>h.elim (aq g p) (fun h=>by have:=hsl.lt p;omega))).keep ar (fun _ _ h=>h);have H:Upd (fun a=>D a\/a=p4) A j:=(a7.trans (U.mono (fun a _ h=> .inl (h.elim (ah a) (fun h=>an a oM))))).trans (ar.mono fE);have bT:∃am,Dv am j b F O []/\(∀a,am a->D a)/\(∀a,am a->a<j.heap.size/\a≠aE)/\∀g,ao.ownBlock=some g->¬am g:=by
  refine⟨fun a=>(aV a\/W.heap.size<=a)/\a<aM.heap.size,(T.kI (fun a h1 h2=>⟨h1,h2⟩)).keep ar (fun _ _ h=>h),fun a N=>N.1.elim (ah a) (fun h=>an a oM),fun a N=>?_,fun g p aQ=>aQ.1.elim (aq g p) (fun h=>by have:=hsl.lt p;omega)⟩;have:=ar.size;have:=a8.size;have:=b1.size;exact⟨oM,oM⟩
 obtain⟨am,ad,V,X,Y⟩:=bT;have av:ScI D A b p4 F O L j:=⟨H,ao,am,G,ab,v,ad,V,fun a N=>(X a N).1,Y⟩
 have bp:j.cell? ⟨az,0,none⟩=some (.int .i64 (n:Int)):=H.j3 h2.1 (fun h=>h.elim h2.2.1 h2.2.2);have bq:j.cell? ⟨aA,0,none⟩=some (.int .i64 (base:Int)):=H.j3 ag.1 (fun h=>h.elim ag.2.1 ag.2.2);have bU:=za G 0;have bV:=zf G 0;have ch:=qYh j _ bp;have ci:=qYh j _ bq;have cj:=zd G;have aF:=Y11 av G ab H ad V X Y v au E;have br:=qqh aC;clear T U a8 aC aO a7 ap hsl v J ah aK aq aL an E h1 h2 ag ar au bn G ab H ad V X Y av bj b1 aD aP aY c1;go_upto_region 5 with(first
  |(refine zk rfl _ _ _ rfl _ _ M rfl rfl (by rw[ak.o.2.2.1];rfl) (by rw[ak.o.2.2.1];exact infoThR) ak.o.2.2.2 ?_)
  |fail)
 rw[<-ak.o.1,<-ak.o.2.1];cases Z:okR y with
 |false=>
  have q1:=zdi Z;have aG:scL n k (curB F O (base+k))=[]:=by rw[<-br.out];unfold scL JR;rw[Z];rfl
  have q:=qqh aG;generalize cdR y=bW at*;have q2:(bW==0)=false:=by simpa using q1
  clear Z aG aa b0 aj
  go_quiet(fail)
  go_wp2_with fail
  go_ret
  refine⟨rfl,?_⟩;rw[q.o,qxx];exact aF.o.1.new ((uur (fun _=>False) j).drewN nq)
 |true=>
  rw[zdj Z];obtain⟨cl,co,cp,-⟩:=sK Z;rw[aa Z]at aj ai;have bX:j.cell? ⟨aE,0,none⟩=some (.int .i64 ((numsR y).getD 0 0:Nat)):=by rw[za aj 0];show some (Value.int .i64 ((natsI (numsR y)).getD 0 0))=_;rw[yK]
  have m1:j.cell? ⟨aE,1,none⟩=some (.int .i64 ((numsR y).getD 1 0:Nat)):=by rw[za aj 1];show some (Value.int .i64 ((natsI (numsR y)).getD 1 0))=_;rw[yK]
  have aG:scL n k (curB F O (base+k))=if decide (((numsR y).getD 0 0-1)%n=k)&&decide ((numsR y).getD 1 0=((numsR y).getD 0 0-1)/n)then[numsR y]else[]:=by rw[<-br.out];unfold scL JR;rw[Z];rfl
  have q:=qqh aG;have bs:=zg aj;have bt:M=recCs (numsR y):=aa Z;have b2:=Y2 bt bs;clear Z aG aa b0 aj ai bs bt;generalize (numsR y).getD 0 0=a0 at*;generalize (numsR y).getD 1 0=a1 at*;obtain⟨s,rfl⟩:∃s,a0=s+1:=⟨a0-1,oM⟩
  simp only[Nat.add_sub_cancel]at q;have cq:(s:Int)<=1099511627776:=oM;have cr:(0:Int)<=(s:Int):=oM;have ct:IntKind.i64.wrap (s:Int)=(s:Int):=qxu _ oM;have cu:IntKind.i64.wrap (k:Int)=(k:Int):=qxu _ oM;have cv:(k:Int)<=1024:=oM;have cx:(0:Int)<=(k:Int):=oM;have cy:¬n=0:=oM;have b3:IntKind.i64.wrap ((base:Int)+(k:Int)-(base:Int))=(k:Int):=by
   rw[show(base:Int)+(k:Int)-(base:Int)=(k:Int) by omega];exact qxu _ oM
  have b4:(s:Int).tmod (n:Int)=((s%n:Nat):Int):=(Int.ofNat_tmod s n).symm;have J:(s:Int).tdiv (n:Int)=((s/n:Nat):Int):=by rw[Int.tdiv_eq_ediv_of_nonneg oM,<-Int.natCast_ediv]
  have bY:s/n<=s:=Nat.div_le_self _ _;generalize s%n=ae at*;generalize s/n=aR at*;have T:IntKind.i64.wrap (aR:Int)=(aR:Int):=qxu _ oM;clear bY;by_cases b5:ae=k
  .subst b5;have q1:((ae:Nat):Int)==(ae:Int):=oe;by_cases b6:a1=aR
   .subst b6;rw[qYs rfl,qYs rfl]at q;replace q:Hid (scL n ae (curB F O (base+ae))=[numsR y]):=q
    go_quiet(fail)
    clear b3 b4 J T;have Q:=(uur (fun _=>False) j).drewN nq;generalize j.drewN nq=bZ at*;obtain⟨av,G,ab,H,ad,V,X,Y,v,au,E⟩:=aF.o;have af:=Q.j4 G;have cz:=za af 0;have f6:=zf af 0;have c0:=zd af;have bu:j.rangeAt aE 0 M:=by rw[b2.o.1];exact b2.o.2
    have bv:=Q.range bu id;clear bu;have bx:=ab.keep Q (fun _ _ h=>h);have ai:M.length=7:=ak.o.2.2.1;have aa:=ak.o.2.2.2;have bz:(prog.info? 307).map (·.size)=some M.length:=by rw[ai];exact infoThR
    obtain⟨bA,bB,bC,bD,bE,bF,bG⟩:=Tz;have a6:=Y5 bC bD bE bF bG;have aw:=Y5 bx ai aa bz bv;have c3:=Y2 Q af;have c4:Hid (L.length+1<=maxLen):=by show _<=_;unfold maxLen;omega
    have c5:Hid ((L.length+1)*56<=140737488355328):=by show _<=_;omega
    clear av G ab H ad V X Y v au E af bx ai aa bz bv Q bp bq bU bV bX m1 bC bD bE bF bG q1;go_wp2_with (first
     |(refine qYz rfl 307 _ rfl _ _ rfl _ _ aw.o.2.2.2.2 underlying307 rfl aw.o.2.2.2.1 ?_)
     |(refine yB rfl 215 307 _ rfl 7 de underlying215 ⟨bA,bB,a6.o.1,a6.o.2.1,a6.o.2.2.1,a6.o.2.2.2.1⟩ de M rfl aw.o.2.1 ?_)
     |(at_builtin;refine zK rfl _ _ 215 rfl bA bB 56 underlying215 a6.o.1 a6.o.2.1 a6.o.2.2.2.1 a6.o.2.2.2.2 a6.o.2.2.1 de rfl aw.o.1 M rfl aw.o.2.1 aw.o.2.2.1 c4.out c5.out ?_;intro cA bH b7 aH bI;obtain⟨aI,aJ,rfl⟩:=b7.rd.j6;refine Stop.i ?_)
     |fail)
    obtain⟨av,G,ab,H,ad,V,X,Y,v,au,E⟩:=aF.o;obtain⟨Q,af⟩:=c3.o;have bJ:ao.ownBlock≠some p4:=fun e=>by
     have:=v p4 e;omega
    have aS:=(aH.block p4 c0 (fun h=>bJ h)).trans af;have b8:=zh aS 0 (.slice aI (L.length+1) aJ);have ax:=zi bH p4 0 (.slice aI (L.length+1) aJ);have cB:=za aS 0;have f7:=zf aS 0;obtain⟨c6,b9⟩:=qqe (bH.setCell ⟨p4,0,none⟩ (.slice aI (L.length+1) aJ));rw[<-b9]at b8 ax;have ba:∀g,(Value.slice aI (L.length+1) aJ).ownBlock=some g->ao.ownBlock=some g\/bZ.heap.size<=g:=fun g p=>by
     rcases bI with e|⟨cC,e,hge⟩
     .rw [e]at p;exact .inl p
     .rw [e]at p;cases p;exact .inr hge
    have bK:=aB.o.2.2.2.2.2.2.2.2.2.1;have cD:=Q.size;have bL:ScI D A b p4 F O (L++[numsR y]) c6:=by
     have bM:From A.heap.size (.slice aI (L.length+1) aJ):=fun g p=>by
      rcases ba g p with h|h
      .exact v g h
      .have:=H.size;omega
     refine⟨((H.trans (Q.mono fE)).trans (aH.mono (fun a _ h=> .inl (bK a (v a h))))).trans (ax.mono (fun a _ h=> .inr h)),_,am,b8,?_,bM,?_,V,fun a N=>?_,fun g p aQ=>?_⟩
     .rw [qyz,qye,qyf,List.flatMap_nil,qxx,<-b2.o.1];exact b7.keep ax (fun g p e=>by
       have:=bM g p;omega)
     .exact ((ad.keep Q (fun _ _ h=>h)).keep aH (fun a N h=>Y a h N)).keep ax (fun a N e=>E.2 (e▸V a N))
     .have:=(X a N).1;have:=aH.size;have:=ax.size;omega
     .rcases ba g p with h|h
      .exact Y g h aQ
      .have:=(X g aQ).1;omega
    have c7:=qqh bL;have c8:=qqh b9;clear av G ab H ad V X Y v au E Q af bJ aS b8 ax ba bK bL b7 aH bI b9;unfold Stop;go_wp2_with fail
    go_ret
    rw[<-c8.o];refine⟨rfl,?_⟩;rw[q.o];exact c7.o
   .have q2:¬((a1:Nat):Int)=(aR:Int):=oM;rw[decide_eq_false b6,Bool.and_false]at q;replace q:Hid (scL n ae (curB F O (base+ae))=[]):=q;clear b6
    go_quiet(fail)
    clear b3 b4 J T;go_wp2_with fail
    go_ret
    refine⟨rfl,?_⟩;rw[q.o,qxx];exact aF.o.1.new ((uur (fun _=>False) j).drewN nq)
  .have q1:¬((ae:Nat):Int)=(k:Int):=oM;rw[decide_eq_false b5]at q;replace q:Hid (scL n k (curB F O (base+k))=[]):=q;clear b5
   go_quiet(fail)
   clear b3 b4 J T;go_wp2_with fail
   go_ret
   refine⟨rfl,?_⟩;rw[q.o,qxx];exact aF.o.1.new ((uur (fun _=>False) j).drewN nq)
def rseq(r:List Nat):Nat:=r.getD 0 0
structure RepS where
 d:List (List Nat)
 g:Nat
 l:Nat
def repStep(s:RepS)(r:List Nat):RepS:=if rseq r=s.l+1 then⟨s.d++[r],max s.g (rseq r),rseq r⟩else ⟨s.d,max s.g (rseq r),s.l⟩
def repS(L:List (List Nat))(after:Nat):RepS:=L.foldl repStep ⟨[],after,after⟩
theorem ZS(L:List (List Nat))(after:Nat)(a:k<L.length):repS (L.take (k+1)) after=repStep (repS (L.take k) after) L[k]:=by
 rw[qXl a,repS,List.foldl_append];rfl
theorem VY{s:RepS}{r:List Nat}{N:Nat}(a:s.g<=N/\s.l<=N)(j:rseq r<=N):(repStep s r).g<=N/\(repStep s r).l<=N/\(repStep s r).d.length<=s.d.length+1:=by
 unfold repStep;split
 .exact ⟨Nat.max_le.2 ⟨a.1,j⟩,j,oe⟩
 .exact ⟨Nat.max_le.2 ⟨a.1,j⟩,a.2,oe⟩
theorem YL{L:List (List Nat)}{after N:Nat}(a:after<=N)(j:∀r∈L,rseq r<=N):∀k,k<=L.length->(repS (L.take k) after).g<=N/\(repS (L.take k) after).l<=N/\(repS (L.take k) after).d.length<=k
 |0,_=>⟨a,a,qXp _⟩
 |k+1,n=>by
  obtain⟨h1,h2,p⟩:=YL a j k oM;obtain⟨q1,q2,q⟩:=VY (r:=L[k]'oM) ⟨h1,h2⟩ (j _ (qyv _));rw[ZS L after oM];exact⟨q1,q2,oM⟩
def zdk(w:World)(r:RepS)(e:Ending)(w':World):Prop:=
 ∃v,e=.returned (.tuple #[v,.int .i64 (r.g:Nat)])/\Sl w' 307 7 v r.d.length (r.d.flatMap recCs)/\From w.heap.size v/\Below w.heap.size w w'
theorem JS{g o:Nat}(n:∀a u,(L.flatMap recCs)[a]?=some u->w.cell? ⟨g,o+a,none⟩=some u)(h:k<L.length):w.rangeAt g (o+k*7) (recCs L[k]):=by
 intro a p j;have q:a<7:=(qym.1 j).1;rw[qXm];refine n _ p ?_;have:∀(L:List (List Nat)) (k:Nat) (h:k<L.length),(L.flatMap recCs)[k*7+a]?=(recCs L[k])[a]?:=by
  intro L
  induction L with
  |nil=>intro k h;simp at h
  |cons x L s=>
   intro k h;rw[qyf];cases k with
   |zero=>rw[qYa,qXy,qyh (by show a<7;exact q)];rfl
   |succ k=>
    rw[qyi (by show 7<=_;omega)];show(L.flatMap recCs)[(k+1)*7+a-7]?=_;rw[show(k+1)*7+a-7=k*7+a by omega];exact s k (by simpa using h)
 rw[this L k h];exact j
theorem zaG{v:Value}(S:Rd w 7 v L.length (L.flatMap recCs))(after:Nat)(aI:after<=1099511627776)(aJ:∀r∈L,rseq r<=1099511627776)(aY:L.length<=1024):
  Calls prog 136 #[v,.int .i64 (after:Int)] w (zdk w (repS L after)):=by
 obtain⟨aZ,b0,rfl⟩:=S.j6;have G:=Y3 S aI aJ;clear S;go_enter func136,ntmps136
 go_wp2
 go_step3
 go_wp2
 go_step3
 go_wp2_with fail
 go_loopg[6,7,8,15] L.length (fun gk ab aK aL aM wr=>∃k:Nat,∃r:RepS,k+gk=L.length/\aM=.int .i64 (k:Int)/\r=repS (L.take k) after/\aK=.int .i64 (r.g:Nat)/\aL=.int .i64 (r.l:Nat)/\Sl wr 307 7 ab r.d.length (r.d.flatMap recCs)/\From w.heap.size ab/\Below w.heap.size w wr)
 case atStart=>exact⟨0,⟨[],after,after⟩,oM,rfl,rfl,rfl,rfl,Sl.nil _ _ _,From.nil _ _ _,qxl _ _⟩
 case round=>
  obtain⟨k,r,b1,rfl,q,rfl,rfl,hsl,H,s⟩:=hrel;by_cases hlt:k<L.length
  .have aN:(k:Int)<(L.length:Int):=oM;have b2:(0:Int)<=(k:Int):=oM;obtain⟨g,o,b3,e,b4,ad⟩:=G.o.1.at oM;cases e;obtain⟨aO,aP,aQ⟩:=YL G.o.2.1 G.o.2.2 k oM;rw[<-q]at aO aP aQ;have hx:=JS ad hlt;have J:=ZS L after hlt;rw[<-q]at J;have aR:=G.o.2.2 _ (qyv hlt);obtain⟨x,ae⟩:=qqe (L[k]);rw[<-ae]at hx J aR;have af:wr.rangeAt g (o+k*7) (recCs x):=Below.range s hx;have aS:wr.cell? ⟨g,o+k*7,none⟩=some (.int .i64 (rseq x:Nat)):=by
    have:=af 0 (.int .i64 ((natsI x).getD 0 0)) rfl;rw[yK]at this;exact this
   have ag:(recCs x).length=7:=rfl;have T:∀v∈recCs x,v.oneCell'=true:=wQ (natsI x);have aT:(prog.info? 307).map (·.size)=some (recCs x).length:=infoThR;obtain⟨U,M⟩:=qqe (wr.alloc (.cells (recCs x).toArray 307));have V:=qqu M;have ah:=qqg M;have N:=zg ah;have W:U.cell? ⟨wr.heap.size,0,none⟩=some (.int .i64 (rseq x:Nat)):=by
    have:=N 0 (.int .i64 ((natsI x).getD 0 0)) rfl;rw[yK]at this;exact this
   obtain⟨Q,X⟩:=qqe (wr.heap.size);rw[<-X]at N W;have ai:=Y3 M X T;have aj:=hsl.keep V (fun _ _ h=>h);have ak:=s.trans ((Upd.below V).mono s.size);obtain⟨am,an,ao,ap,aq,ar,au⟩:=Tz;have j:=Y5 ao ap aq ar au;have av:Hid (r.d.length+1<=maxLen):=by show _<=_;unfold maxLen;omega
   have aw:Hid ((r.d.length+1)*56<=140737488355328):=by show _<=_;omega
   have a:=Y6 aj H ak J av.out aw.out;have aU:Hid (u6.ownBlock≠some Q):=fun e=>by have:=hsl.lt e;omega
   have ax:Hid (recCs x=recCs x):=rfl;have HX:=Y4 ag aT T N;clear hsl H s ad hx J T aj ak M V ah N X aS ae ao ap aq ar au ag q;have aV:Hid (∃z,rseq x=z):=⟨_,rfl⟩
   generalize ay:rseq x=z at*;have n:=qqh ay;clear ay aV;generalize az:recCs x=Y at*;replace ax:=qqh az;clear az;go_upto_region 6 with(first
    |(refine qYz rfl 307 _ rfl _ _ rfl _ _ af underlying307 rfl HX.o.2.1 ?_)
    |(refine zk rfl _ _ _ rfl _ _ Y rfl rfl jY HX.o.2.1 HX.o.2.2.1 ?_)
    |fail)
   rw[<-ai.o.1,<-ai.o.2.1];by_cases aA:z=r.l+1
   .subst aA;have q1:¬(((r.l+1:Nat):Int)<=(r.l:Int)):=oM;have A:repStep r x=⟨r.d++[x],max r.g (r.l+1),r.l+1⟩:=by unfold repStep;rw[if_pos n.o,n.o]
    have p:=qqh A;clear A;rcases Nat.lt_or_ge r.g (r.l+1)with E|E
    all_goals
     have aW:(r.g:Int)<((r.l+1:Nat):Int)\/((r.l+1:Nat):Int)<=(r.g:Int):=oM
     first
      |(have Z:(r.g:Int)<((r.l+1:Nat):Int):=by omega)
      |(have Z:((r.l+1:Nat):Int)<=(r.g:Int):=by omega)
     clear aW;go_wp2_with (first
      |(refine qYz rfl 307 _ rfl _ _ rfl _ _ HX.o.2.2.2 underlying307 rfl HX.o.2.1 ?_)
      |(refine yB rfl 215 307 _ rfl 7 de underlying215 ⟨am,an,j.o.1,j.o.2.1,j.o.2.2.1,j.o.2.2.2.1⟩ de Y rfl HX.o.1 ?_)
      |(at_builtin;refine zK rfl _ _ 215 rfl am an 56 underlying215 j.o.1 j.o.2.1 j.o.2.2.2.1 j.o.2.2.2.2 j.o.2.2.1 de rfl a.o.1 Y rfl HX.o.1 HX.o.2.2.1 av.out aw.out ?_;intro b5 a6 a7 a8 aB;obtain⟨aC,aD,rfl⟩:=a7.rd.j6;refine Stop.i ?_)
      |fail)
     unfold Stop;have aX:Q<U.heap.size:=qYh U _ W;have aE:u6.ownBlock≠some Q:=aU.o;have b6:a6.cell? ⟨Q,0,none⟩=some (.int .i64 ((r.l+1:Nat):Int)):=(a8.cellAt aX (fun h=>aE h)).trans W;have aF:Below w.heap.size w a6:=zj a.o.2.2.1 a8 (qXp _) (fun g E=>a.o.2.1 g E);have aG:From w.heap.size (.slice aC (r.d.length+1) aD):=aB.ge (a.o.2.2.1.size) a.o.2.1;have aH:Sl a6 307 7 (.slice aC (r.d.length+1) aD) (repStep r x).d.length ((repStep r x).d.flatMap recCs):=by
      rw[p.o];simp only[qyz,qye,qyf,List.flatMap_nil,qxx,qza,qzd];rw[ax.o];exact a7
     have aa:=Y3 aF aG aH;clear aF aG aH a7 a8 aB aE;go_wp2_with fail
     go_roundg (gk-1)
     case measure=>omega
     case rel=>
      refine⟨k+1,repStep r x,oM,by go_num,a.o.2.2.2.1.symm,?_,by rw[p.o];simp,aa.o.2.2,aa.o.2.1,aa.o.1⟩;rw[p.o];simp only[]
      first
       |(congr 1;omega)
       |(simp;omega)
       |(rw[Nat.max_eq_right oM];done)
       |(rw[Nat.max_eq_left oM];done)
       |(rw[Nat.max_eq_right oM];simp;done)
       |(rw[Nat.max_eq_left oM];simp)
   .have q1:¬(((z:Nat):Int)=(r.l:Int)+1):=oM;have A:repStep r x=⟨r.d,max r.g z,r.l⟩:=by unfold repStep;rw[if_neg (by rw[n.o];exact aA),n.o]
    have p:=qqh A;clear A;rcases Nat.lt_or_ge r.g z with E|E
    all_goals
     first
      |(have Z:(r.g:Int)<(z:Int):=by omega)
      |(have Z:(z:Int)<=(r.g:Int):=by omega)
     by_cases b7:(z:Int)<=(r.l:Int)
     all_goals
      go_wp2_with fail
      go_roundg (gk-1)
      case measure=>omega
      case rel=>
       refine⟨k+1,repStep r x,oM,by go_num,a.o.2.2.2.1.symm,?_,by rw[p.o],?_,a.o.2.1,a.o.2.2.1⟩
       .rw [p.o];simp only[]
        first
         |(congr 1;omega)
         |rw[Nat.max_eq_right oM]
         |rw[Nat.max_eq_left oM]
       .rw [p.o];exact a.o.1
  .obtain rfl:k=L.length:=oM;have aN:¬((L.length:Int)<(L.length:Int)):=oM;rw[qXk (qXp _)]at q;have n:=Y4 hsl H s q;clear hsl H s q;go_wp2_with fail
   try rw[qxr]
   go_ret2
   rw[<-n.o.2.2.2];exact⟨u6,rfl,n.o.1,n.o.2.1,n.o.2.2.1⟩
theorem zdl{b E G H g:Nat}{base n:Nat}(h:ScI D w b p4 F O [] w)(j:∀M,w.heap.size<=M->D M)(p:p4<w.heap.size/\¬D p4)
  (h1:w.cell? ⟨E,0,none⟩=some (.pointer (some ⟨b,0,none⟩))/\¬D E/\E≠p4) (h2:w.cell? ⟨G,0,none⟩=some (.int .i64 (n:Int))/\¬D G/\G≠p4) (q:w.cell? ⟨H,0,none⟩=some (.int .i64 (base:Int))/\¬D H/\H≠p4)
  (a:w.heap[g]?=some (.cells (ints (secL base n n)).toArray 3 (0,0))/\¬D g/\g≠p4) (U:n<=1024) (V:base+n<=F.length) (s:Nib w) (v:¬D 0/\0≠p4):
  Calls prog 201 #[.slice (some ⟨g,0,none⟩) n n,.func (.func 203) #[] #[.pointer (some ⟨E,0,none⟩),.pointer (some ⟨G,0,none⟩),.pointer (some ⟨H,0,none⟩),.pointer (some ⟨p4,0,none⟩)]] w fun e W=>
   e=.returned (.int .i64 0)/\ScI D w b p4 F O (scanTo F O base n n) W:=by
 have N:=Y9 h j p h1 h2 q a s v;clear h j p h1 h2 q a s v;go_enter func201,ntmps201
 go_wp2
 go_step3
 go_wp2
 go_step3
 go_wp2_with fail
 go_loopg[5,10] n (fun gk X Y wr=>∃k:Nat,k+gk=n/\Y=.int .i64 (k:Int)/\X=.int .i64 0/\ScI D w b p4 F O (scanTo F O base n k) wr)
 case atStart=>exact⟨0,oM,rfl,rfl,N.o.1⟩
 case round=>
  obtain⟨k,a6,rfl,rfl,A⟩:=hrel;by_cases hlt:k<n
  .have Z:(k:Int)<(n:Int):=oM;have a7:(0:Int)<=(k:Int):=oM;obtain⟨h,j,p,h1,h2,q,a,s,v⟩:=N.o;have Q:=(A.1.block g (zd a.1) (fun h=>h.elim a.2.1 a.2.2)).trans a.1;have cg:wr.cell? ⟨g,k,none⟩=some (.int .i64 ((base:Int)+(k:Int))):=by
    rw[za Q,qyr,yh (by rw[We];exact hlt)];simp only[secL,qyu,List.getElem_range,if_pos hlt,qxs]
   have S:=qqh (zfm (k:=k) A j p h1 h2 q hlt U V (qXr (wD F O base n k) oM) s v);clear h j p h1 h2 q a s v Q A;go_wp2_with fail
   refine S.o.mono ?_;rintro e a8 ⟨rfl,T⟩;have J:=qqh T;clear T S cg;go_wp2_with fail
   go_roundg (gk-1)
   case measure=>omega
   case rel=>exact⟨k+1,oM,by go_num,rfl,J.o⟩
  .obtain rfl:k=n:=oM;have Z:¬((k:Int)<(k:Int)):=oM;have J:=qqh A;clear A;go_wp2_with fail
   try rw[qxr]
   go_ret
   exact⟨rfl,J.o⟩
end Go.Proofs.YtpejdgiccaijfaaGreatDoor
