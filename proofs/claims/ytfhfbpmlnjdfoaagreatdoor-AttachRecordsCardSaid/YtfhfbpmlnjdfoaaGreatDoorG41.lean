/- attach.Format: its steps. Superblocks: their n -/
import Derived.Test.YtfhfbpmlnjdfoaaGreatDoorG40
set_option maxRecDepth 100000
set_option maxHeartbeats 2000000
namespace Go.Proofs.YtfhfbpmlnjdfoaaGreatDoor
open Go Go.RowKit
theorem QH(p0:Nat)(s:Int)(y:Bk)(w:World):Calls Tryz.prog 56 #[.int .i64 s,.agg (bkC y).toArray,.pointer (some ⟨p0,0,none⟩)] w
  fun e w'=>e=.returned (.func (.func 57) #[] #[.pointer (some ⟨p0,0,none⟩),.pointer (some ⟨w.heap.size,0,none⟩),.pointer (some ⟨w.heap.size+1,0,none⟩)])/\
   w'=(w.alloc (.cells #[.int .i64 s] 3)).alloc (.cells (bkC y).toArray 54):=by
 have hmf:=qqf;go_enter Tryz.func56,Tryz.ntmps56
 go_wp2
 go_ret
 simp
theorem sj{T:Nat->Prop}{w:World}{b p0 p1 p2:Nat}{F:List Bk}{O:List (Nat×Bk)}{P:List Int}(h:Dv T w b F O P)(hn:∀j,w.heap.size<=j->T j)(s:Nat)(y:Bk)(hy:y.length=64)
  (c0:w.cell? ⟨p0,0,none⟩=some (.pointer (some ⟨b,0,none⟩))) (c1:w.cell? ⟨p1,0,none⟩=some (.int .i64 (s:Int))) (r2:w.rangeAt p2 0 (bkC y)) (hs:s<F.length) (hO:O.length<65536):
  Calls Tryz.prog 57 #[.pointer (some ⟨p0,0,none⟩),.pointer (some ⟨p1,0,none⟩),.pointer (some ⟨p2,0,none⟩)] w (Ro T w b (writeR F O P s y)):=by
 have HW:=qqh (wI h hn s hs y hy hO);have hsi:=zt y hy;clear h hn;go_enter Tryz.func57,Tryz.ntmps57
 go_wp2_with (first
  |(refine qZg rfl _ _ rfl _ _ rfl _ _ r2 Tryz.underlying54 rfl hsi ?_)
  |fail)
 refine HW.o.mono ?_;rintro e w2 ⟨rfl,hd,hu⟩;have H2:=Y2 hd hu;obtain⟨cd,hcd⟩:=qqe ((writeR F O P s y).cd);rw[<-hcd];replace hcd:=qqh hcd;clear hd hu HW c0 c1 r2;go_wp2
 go_ret
 exact⟨by rw[<-hcd.out];rfl,H2.o⟩
def zW(k:Nat):List (Nat×Bk):=(List.range k).map fun i=>(i+1,zB)
theorem WV(k:Nat):zW (k+1)=zW k++[(k+1,zB)]:=by simp[zW,List.range_succ]
theorem QI(k:Nat):(zW k).length=k:=by simp[zW]
theorem uR(F:List Bk)(O:List (Nat×Bk))(s:Nat)(y:Bk):writeR F O [] s y=⟨F,O++[(s,y)],[],0⟩:=rfl
theorem Ur{T:Nat->Prop}{w:World}{b pl pd:Nat}{F:List Bk}{O:List (Nat×Bk)}(h:Dv T w b F O [])(hn:∀j,w.heap.size<=j->T j)(z:Nat)(hz1:1<=z)
  (c0:w.cell? ⟨pd,0,none⟩=some (.pointer (some ⟨b,0,none⟩))) (c5:w.cell? ⟨pl,5,none⟩=some (.int .i64 (z:Int))) (hTl:¬T pl) (hTd:¬T pd) (hz:z<=F.length) (hO:O.length<=50000):
  Calls Tryz.prog 58 #[.pointer (some ⟨pl,0,none⟩),.pointer (some ⟨pd,0,none⟩)] w (Ro T w b ⟨F,O++zW (z-1),[],0⟩):=by
 have hfl:=h.good.fl;obtain⟨Z,hZ⟩:=qqe (zB);have HZ:=qqh (wm Z hZ);have HH:=Y7 h hn c0 c5 hTl hTd hZ;clear h hn c0 c5 hTl hTd hZ;go_enter Tryz.func58,Tryz.ntmps58
 go_wp2_with fail
 go_loopg[3] (z-1) (fun gk s3 wr=>∃k:Nat,k+gk=z-1/\s3=.int .i64 ((k:Int)+1)/\Dv T wr b F (O++zW k) []/\Upd T w wr)
 case atStart=>exact⟨0,by omega,by simp,by rw[show zW 0=[]from rfl,qxy];exact HH.o.1,uur _ _⟩
 case round=>
  obtain⟨k,hk,rfl,hd,hu⟩:=hrel;obtain⟨h,hn,c0,c5,hTl,hTd,hZ⟩:=HH.o;have d0:=hu.cellv c0 hTd;have d5:=hu.cellv c5 hTl;by_cases hlt:k+1<z
  .have k1:(k:Int)+1<(z:Int):=by omega
   have HW:=qqh (wI hd (fun j hj=>hn j (qXx hu.size hj)) (k+1) (by omega) Z (by rw[hZ];exact zw) (by rw[qzd,QI];omega));rw[uR,show((k+1:Nat):Int)=(k:Int)+1 by simp]at HW;have HU:=qqh hu;clear h hn c0 c5 hTl hTd hZ hd hu;go_wp2_with (first
    |(refine zX rfl rfl HZ.o ?_)
    |fail)
   refine HW.o.mono ?_;rintro e w2 ⟨rfl,hd2,hu2⟩;have H2:=Y2 hd2 (HU.o.trans hu2);clear hd2 hu2 HW d0 d5;go_wp2
   go_roundg (gk-1)
   case measure=>omega
   case rel=>
    obtain⟨hd2,hu2⟩:=H2.o;refine⟨k+1,by omega,by go_num,?_,hu2⟩;have e:O++zW (k+1)=O++zW k++[(k+1,Z)]:=by rw[WV,HH.o.2.2.2.2.2.2,qxx]
    rw[e];exact hd2
  .obtain rfl:z=k+1:=by omega
   have k1:¬((k:Int)+1<((k+1:Nat):Int)):=by omega
   have k2:¬((k:Int)+1<(k:Int)+1):=by omega
   have HE:=Y2 hd hu;clear h hn c0 hTl hTd hZ hd hu d0;go_wp2_with fail
   go_ret
   exact⟨rfl,HE.o.1,HE.o.2⟩
theorem QJ{T:Nat->Prop}{w:World}{b pd pl ps:Nat}{F:List Bk}{O:List (Nat×Bk)}(h:Dv T w b F O [])(hn:∀j,w.heap.size<=j->T j)(hN:Nib w)(_hNT:¬T 0)(pa:Nat)(hp1:1<=pa)(hp:1+pa+pa<=F.length)(hO:O.length+pa<65536)
  (c0:w.cell? ⟨pd,0,none⟩=some (.pointer (some ⟨b,0,none⟩))) (l0:w.cell? ⟨pl,0,none⟩=some (.int .i64 1)) (s4:w.cell? ⟨ps,4,none⟩=some (.int .i64 (pa:Int))):
  Calls Tryz.prog 59 #[.pointer (some ⟨pd,0,none⟩),.pointer (some ⟨pl,0,none⟩),.pointer (some ⟨ps,0,none⟩)] w (Ro T w b ⟨flushF F (O++ckO 1 pa (pagesB 0 [])),[],[],0⟩):=by
 have HS:=TL h hn 1 pa 0 0 (by omega) none 0 0 [] rfl (by unfold needN;simpa using hp1) (by omega) hp hO (fun W hW=>rK 0 (by omega) (hN.below hW));have e:saveR F O [] (ckO (1+0*pa) pa (pagesB 0 []))=⟨flushF F (O++ckO 1 pa (pagesB 0 [])),[],[],0⟩:=by
  rw[qYg,qXs];unfold saveR;have hgo:∀(L O:List (Nat×Bk)),wrsR F L O []=⟨F,O++L,[],0⟩:=by
   intro L
   induction L with
   |nil=>intro O;simp[wrsR]
   |cons x L ih=>
    intro O;rw[xT (by rw[uR]),uR,ih];simp
  rw[hgo];rfl
 rw[e]at HS;replace HS:=qqh HS;clear h hn hN _hNT e;go_enter Tryz.func59,Tryz.ntmps59
 go_wp2_with fail
 refine HS.o.mono ?_;rintro e w2 ⟨rfl,hd,hu⟩;have H2:=Y2 hd hu;clear hd hu HS c0 l0 s4;go_wp2
 go_ret
 exact⟨rfl,H2.o⟩
def bndS:List (Int×Int):=[(0,1099511627776),(1,4096),(1,1024),(1,4096),(1,4096),(1,4096),(1,64)]
def mayS(xs:List Int):Bool:=withinB bndS xs
theorem YM{w:World}{gl ol cl gt:Nat}(xs:List Int)(hxl:xs.length=7)(_hcl:7<=cl)(_hcm:cl<=maxLen)(hB:Bnd w (.func (.func 196) #[] #[.pointer (some ⟨gt,0,none⟩)]) bndS)(hx:w.rangeAt gl ol (ints xs)):
  Calls Tryz.prog 196 (#[.slice (some ⟨gl,ol,none⟩) 7 cl]++ #[.pointer (some ⟨gt,0,none⟩)]) w fun e w'=>e=.returned (.bool (mayS xs))/\Below w.heap.size w w':=by
 obtain⟨g,h,c,hv,hc,hb⟩:=hB;cases hv;exact yT (cl:=cl) bndS xs hc hb hx hxl (by show 7<=7;decide) (by decide)
theorem sk{xs:List Int}(hx:xs.length=7)(h:mayS xs=true):(∀x∈xs,0<=x)/\sR (numL [6,2,2,2,2,2,1] xs):=by
 have h1:withinB bndS xs=true:=h;have a0:=zI h1 (i:=0) (by decide) (by omega);have a1:=zI h1 (i:=1) (by decide) (by omega);have a2:=zI h1 (i:=2) (by decide) (by omega);have a3:=zI h1 (i:=3) (by decide) (by omega);have a4:=zI h1 (i:=4) (by decide) (by omega);have a5:=zI h1 (i:=5) (by decide) (by omega);have a6:=zI h1 (i:=6) (by decide) (by omega);simp[bndS]at a0 a1 a2 a3 a4 a5 a6;have hb:∀i (h1:i<xs.length) (h2:i<[6,2,2,2,2,2,1].length),0<=xs[i]/\xs[i]<256^[6,2,2,2,2,2,1][i]:=by
  intro i hi hi2;rcases i with _|_|_|_|_|_|_|i
  all_goals first|(simp at hi2;omega)|(simp;omega)
 refine⟨fun x hx'=>?_,ux (by rw[hx];rfl) (by decide) (by decide) hb⟩;obtain⟨i,hi,rfl⟩:=qza hx';exact(hb i hi (by rw[hx]at hi;exact hi)).1
theorem QK{w:World}(k:Nat)(hk:k<256)(l:List (Nat×Nat))(hl:sR l)(m:Nat)(hm:l.length=m)(hm2:m<=100)(gs cl:Nat)(ft fm:Nat)(ct cm:Array Value)(bv:Value)(_hbv:bv.oneCell'=true)(cs:List Value)
  (hcs:(Tryz.prog.info? 40).map (·.size)=some cs.length) (hs:w.rangeAt gs 0 (ints (wy l))) (hN:Nib w)
  (entT:∀args w,(callFunc ft args).run Tryz.prog w=.ok (.enter ft args) w) (entM:∀args w,(callFunc fm args).run Tryz.prog w=.ok (.enter fm args) w)
  (htell:∀W,Below w.heap.size w W->Calls Tryz.prog ft (#[.agg cs.toArray]++ct) W (zO W m (numsL l)))
  (hmay:∀W gl c,m<=c->c<=maxLen->Below w.heap.size w W->W.rangeAt gl 0 (ints (numsL l))->Calls Tryz.prog fm (#[.slice (some ⟨gl,0,none⟩) m c]++cm) W fun e W'=>e=.returned (.bool true)/\Below W.heap.size W W'):
  Calls Tryz.prog 65 #[.agg #[.int .i64 (k:Int),.slice (some ⟨gs,0,none⟩) m cl,.func (.func ft) #[] ct,.func (.func fm) #[] cm,bv],.agg cs.toArray] w
   fun e w'=>e=.returned (.tuple #[.agg (bkC (sectB k l)).toArray,.int .i64 0])/\Below w.heap.size w w':=by
 have H:=Y7 hs hN htell hmay hk hl hm;have HC:=qqh hcs;clear hs hN htell hmay hk hl hm hcs;have hr:((w.alloc (.cells #[.int .i64 (k:Int),.slice (some ⟨gs,0,none⟩) m cl,.func (.func ft) #[] ct,.func (.func fm) #[] cm,bv] 137)).alloc (.cells cs.toArray 40)).rangeAt (w.heap.size+1) 0 cs:=zg (zc _ _ (by simp));go_enter Tryz.func65,Tryz.ntmps65
 go_wp2_with (first
  |(refine qZg rfl _ _ rfl _ _ rfl _ _ (qYp hr _) Tryz.underlying40 rfl HC.o ?_)
  |fail)
 show Calls _ _ _ (((w.alloc (.cells #[.int .i64 (k:Int),.slice (some ⟨gs,0,none⟩) m cl,.func (.func ft) #[] ct,.func (.func fm) #[] cm,bv] 137)).alloc (.cells cs.toArray 40)).alloc (.cells (bkC zB).toArray 54)) _;obtain⟨h1,h2,h3,h4,h5⟩:=yG w (.cells #[.int .i64 (k:Int),.slice (some ⟨gs,0,none⟩) m cl,.func (.func ft) #[] ct,.func (.func fm) #[] cm,bv] 137) (.cells cs.toArray 40) (.cells (bkC zB).toArray 54);clear hr;generalize ((w.alloc (.cells #[.int .i64 (k:Int),.slice (some ⟨gs,0,none⟩) m cl,.func (.func ft) #[] ct,.func (.func fm) #[] cm,bv] 137)).alloc (.cells cs.toArray 40)).alloc (.cells (bkC zB).toArray 54)=w3 at*;refine(H.o.2.2.1 w3 (Upd.below h5)).mono ?_;rintro e w4 ⟨gl,c4,rfl,hc4,hc5,hr4,hb4⟩;have hu4:=qqb hb4;have f1:=(hu4.block _ (zd h1) (fun h=>h)).trans h1;have f3:=(hu4.block _ (zd h3) (fun h=>h)).trans h3;have m3:w4.cell? ⟨w.heap.size,3,none⟩=some (.func (.func fm) #[] cm):=za f1 3;have H4:=Y5 hr4 (h5.trans hu4) f1 f3 h4;clear h1 h2 h3 h4 h5 hr4 hb4 hu4 f1 f3;go_wp2_with fail
 refine(H.o.2.2.2.1 w4 gl c4 hc4 hc5 (Upd.below H4.o.2.1) H4.o.1).mono ?_;rintro e w5 ⟨rfl,hb5⟩;have hu5:=qqb hb5;obtain⟨r4,u4,f1,f3,z4⟩:=H4.o;have r5:=hu5.range r4 (fun h=>h);have g1:=(hu5.block _ (zd f1) (fun h=>h)).trans f1;have g3:=(hu5.block _ (zd f3) (fun h=>h)).trans f3;have m0:w5.cell? ⟨w.heap.size,0,none⟩=some (.int .i64 (k:Int)):=za g1 0;have z5:w.heap.size+3<=w5.heap.size:=by have h1:=zd g3;have h2:=hu5.size;have h3:=u4.size;have h4:=zd f3;have h5:=z4;have h6:=H4.o.2.2.2.2;omega
 have H5:=Y4 r5 (u4.trans hu5) g1 g3;clear r4 u4 f1 f3 z4 r5 g1 g3 hu5 hb5 m3;go_wp2_with fail
 generalize hM:w.heap.size=M at*;have HM:=qqh hM;clear hM;refine qZj (S:=fun W=>W.cell? ⟨M,0,none⟩=some (.int .i64 (k:Int))) (by kernel_rfl) (by rw[qYo];exact m0) (fun hHeld=>?_);refine qZf (i:=1) (v:=?_) rfl (by kernel_rfl) (by kernel_rfl) (by kernel_rfl) (fun _ _ _ h=>h) (Or.inl ⟨by rfl,?_⟩) hHeld ?_
 rotate_left
 .intro W hSw;(try dsimp only at hSw);(try go_split_ands);go_simp;(try with_reducible rfl)
 simp only[Act.put,qXi];refine qZf (i:=2) (v:=?_) rfl (by kernel_rfl) (by kernel_rfl) (by kernel_rfl) (fun _ _ _ h=>h) (Or.inl ⟨by rfl,?_⟩) hHeld ?_
 rotate_left
 .intro W hSw;(try dsimp only at hSw);(try go_split_ands);go_simp;(try with_reducible rfl)
 simp only[Act.put];refine Wl.r 0 (fun K hK=>?_);go_simp
 refine(Xj _).mono ?_;rintro e w6 ⟨g,rfl,hW,hge,hB⟩;have hge':w5.heap.size<=g:=hge;refine hK.o _ _ ((uuo (S:=fun _=>False) hB).cellv hHeld (fun h=>h)) (fun hHeld2=>?_);clear hK K;refine Wl.r 3 (fun K hK=>?_);go_simp
 refine(Vx hW k 1 (by decide) (by decide) (by have:=H.o.2.2.2.2.1;omega) (by decide)).mono ?_;rintro e w7 ⟨rfl,hW2,hU⟩;refine hK.o _ _ (hU.cellv hHeld2 (by omega)) (fun hHeld3=>?_);clear hK K;refine Wl.r 4 (fun K hK=>?_);go_simp
 refine hK.o _ _ (hHeld3) (fun _=>?_);clear hK K;refine Wl.d ?_;obtain⟨r5,u5,g1,g3⟩:=H5.o;obtain⟨hs,hN,-,-,hk,hl,hm⟩:=H.o;have u57:Upd (fun j=>j=g) w5 w7:=((uuo (S:=fun _=>False) (yg hB)).mono (fun _ _ h=>h.elim)).trans hU;have glt:gl<w5.heap.size\/m=0:=by
  rcases qXt m with h|h
  .exact .inr h
  .exact .inl (qYn w5 _ (r5 0 _ (xl (by omega))))
 have nM:w.heap.size=M:=HM.o;have gslt:gs<w.heap.size\/m=0:=by
  rcases qXt m with h|h
  .exact .inr h
  .exact .inl (qYn w _ (hs 0 _ (yU (by omega))))
 have ws5:=u5.size;have m1:w7.cell? ⟨M,1,none⟩=some (.slice (some ⟨gs,0,none⟩) m cl):=u57.cellv (za g1 1) (by omega);have g3':=(u57.block (M+1+1) (zd g3) (by omega)).trans g3;have hN7:Nib w7:=((hN.keep u5 (fun h=>h)).keep u57 (by have:=hN.lt;omega))
 have hlow:Below M w w7:=zj (by rw[<-nM];exact Upd.below u5) u57 (by rw[<-nM];exact qXv _) (fun k e=>by omega);have hr7:∀i (hi:i<l.length) W,Upd (fun j=>j=g) w7 W->W.cell? ⟨gl,0+i,none⟩=some (.int .i64 (l[i].1:Int)):=fun i hi W hW=>hW.cellv (u57.cellv (r5 i _ (xl hi)) (by omega)) (by omega);have hs7:∀i (hi:i<l.length) W,Upd (fun j=>j=g) w7 W->W.cell? ⟨gs,0+i,none⟩=some (.int .i64 (l[i].2:Int)):=fun i hi W hW=>hW.cellv (u57.cellv ((u5.range hs (fun h=>h)) i _ (yU hi)) (by omega)) (by omega);have H7:=Y9 hr7 hs7 m1 g3' hN7 hlow hl hm hW2;have hgeM:M<=g:=by omega
 have hgM:¬M=g:=by omega
 have hgM2:¬M+1+1=g:=by omega
 have hMw:=zd g3'
 rename_i hx
 clear hx hHeld hHeld2 hHeld3 hW hge hB hU hW2 hN hs hk hl hm r5 u5 g1 g3 u57 glt gslt nM ws5 m1 g3' hN7 hlow hr7 hs7 m0;go_wp2
 go_loopw[26] (fun s26 wr=>∃i:Nat,i<=m/\s26=.int .i64 i/\WrAt wr g (lowB k 1++encB (l.take i))/\Upd (fun j=>j=g) w7 wr) (fun s26 _=>m-(intOf s26).toNat)
 case atStart=>exact⟨0,qYf _,rfl,by simpa[encB]using H7.o.2.2.2.2.2.2.2.2,uur _ _⟩
 case round=>
  obtain⟨i,hi,rfl,hW,hu⟩:=hrel;by_cases hlt:i<m
  .obtain ⟨hr7,hs7,m1,g3',hN7,hlow,hl,hm,-⟩:=H7.o;have hil:i<l.length:=by omega
   have x1:=hr7 i hil wr hu;have x2:=hs7 i hil wr hu;have x3:=hu.cellv m1 hgM;rw[qYe]at x1 x2;have hfit:=hl.1 l[i] (qyz hil);have hsz:=vq l hil;have hts:Hid (encB (l.take (i+1))=encB (l.take i)++lowB l[i].1 l[i].2):=by show _=_;rw[qXq hil,ut]
   have hlen:(lowB k 1++encB (l.take i)).length+l[i].2<=60:=by
    rw[qzd,zU,xQ];have:=hl.2;omega
   have b1:(0:Int)<=(i:Int)/\(i:Int)<(m:Int):=by omega
   have HX:=Y4 hW hu hfit hlen;clear hr7 hs7 m1 g3' hN7 hlow hl hm hW hu hfit hsz hlen;obtain⟨b1,b2⟩:=b1;generalize l[i]=p at*;go_wp2_with fail
   refine(Vx HX.o.1 p.1 p.2 HX.o.2.2.1.2.1 HX.o.2.2.1.2.2 HX.o.2.2.1.1 HX.o.2.2.2).mono ?_;rintro e w8 ⟨rfl,hW8,hU8⟩;have HZ:=Y2 hW8 hU8;clear hW8 hU8;go_wp2
   go_roundw
   case rel=>exact⟨i+1,by omega,by go_num,by rw[hts.out,<-qxx];exact HZ.o.1,HX.o.2.1.trans HZ.o.2⟩
   case measure=>simp[intOf];omega
  .obtain rfl:i=m:=by omega
   obtain⟨hr7,hs7,m1,g3',hN7,hlow,hl,hm,-⟩:=H7.o;have hN8:=hN7.keep hu (by have:=(H.o.2.1).lt;have:=HM.o;omega);rw[qXp (by omega)]at hW;have hg3:=(hu.block (M+1+1) (zd g3') hgM2).trans g3';have hlen:Hid ((sectB k l).length=64):=xo hl.2;have HX:=Y6 hW hN8 hu hg3 hlow hl;have hus:=hu.size;clear hr7 hs7 m1 g3' hN7 hlow hl hm hW hu hN8 hg3;go_wp2_with fail
   refine(Td HX.o.1 HX.o.2.1).mono ?_;rintro e w9 ⟨rfl,hb9⟩;have hg9:=(hb9.block (M+1+1) (zd HX.o.2.2.2.1)).trans HX.o.2.2.2.1;have hth:w9.there (M+1+1) 0 64:=fun j hj=>by
    rw[za hg9,zf hg9];exact⟨by rw[qYe,qxe (by rw[zl _ zw];exact hj)];rfl,rfl⟩
   have hbl:Hid (Below M w w9):=(zj HX.o.2.2.2.2.1 HX.o.2.2.1 (by have:=HM.o;omega) (fun k e=>by omega)).trans (hb9.mono (by omega));have hsl:=hlen.out;have hst:w9.there (M+1+1) 0 (bkC (sectB k l)).toArray.size:=by rw[zl _ hsl];exact hth
   have hst2:w9.there (M+1+1) 0 (bkC (sectB k l)).length:=by rw[zo,hsl];exact hth
   have hsz2:(Tryz.prog.info? 54).map (·.size)=some (bkC (sectB k l)).toArray.size:=by rw[zl _ hsl];exact zF
   have HST:=Y4 hst hsz2 hst2 hsl;clear hst hsz2 hst2 hsl hg9 hth hb9 hlen;rw[show sealB (padB (lowB k 1++encB l))=sectB k l from rfl];generalize hsb:sectB k l=sb at*;have Hsb:=qqh hsb;clear hsb;go_wp2_with (first
    |(refine qZi rfl _ _ _ rfl _ _ (bkC sb).toArray rfl rfl HST.o.1 HST.o.2.1 (qYu (zv _)) ?_)
    |fail)
   refine qYw (zn rfl _ _ (M+1+1) 0 (bkC sb) _ rfl (qYr _ _ _ _ HST.o.2.2.1) Tryz.underlying54 rfl (zt _ HST.o.2.2.2)) rfl
     ⟨by rw[Hsb.out];rfl,?_⟩
   rw[HM.o];exact zj hbl.out (zp w9 (M+1+1) 0 _) (by have:=HM.o;omega) (fun k e=>by omega)
theorem SM{w:World}(k:Nat)(xs:List Int)(m:Nat)(gs cl:Nat)(ft fm:Nat)(ct cm:Array Value)(bv:Value)(_hbv:bv.oneCell'=true)(cs:List Value)
  (hcs:(Tryz.prog.info? 40).map (·.size)=some cs.length)
  (entT:∀args w,(callFunc ft args).run Tryz.prog w=.ok (.enter ft args) w) (entM:∀args w,(callFunc fm args).run Tryz.prog w=.ok (.enter fm args) w)
  (htell:∀W,Below w.heap.size w W->Calls Tryz.prog ft (#[.agg cs.toArray]++ct) W (zO W m xs))
  (hmay:∀W gl c,m<=c->c<=maxLen->Below w.heap.size w W->W.rangeAt gl 0 (ints xs)->Calls Tryz.prog fm (#[.slice (some ⟨gl,0,none⟩) m c]++cm) W fun e W'=>e=.returned (.bool false)/\Below W.heap.size W W'):
  Calls Tryz.prog 65 #[.agg #[.int .i64 (k:Int),.slice (some ⟨gs,0,none⟩) m cl,.func (.func ft) #[] ct,.func (.func fm) #[] cm,bv],.agg cs.toArray] w
   fun e w'=>e=.returned (.tuple #[bkV zB,.int .i64 10])/\Below w.heap.size w w':=by
 have H:=Y2 htell hmay;have HC:=qqh hcs;clear htell hmay hcs;have hr:((w.alloc (.cells #[.int .i64 (k:Int),.slice (some ⟨gs,0,none⟩) m cl,.func (.func ft) #[] ct,.func (.func fm) #[] cm,bv] 137)).alloc (.cells cs.toArray 40)).rangeAt (w.heap.size+1) 0 cs:=zg (zc _ _ (by simp));go_enter Tryz.func65,Tryz.ntmps65
 go_wp2_with (first
  |(refine qZg rfl _ _ rfl _ _ rfl _ _ (qYp hr _) Tryz.underlying40 rfl HC.o ?_)
  |fail)
 show Calls _ _ _ (((w.alloc (.cells #[.int .i64 (k:Int),.slice (some ⟨gs,0,none⟩) m cl,.func (.func ft) #[] ct,.func (.func fm) #[] cm,bv] 137)).alloc (.cells cs.toArray 40)).alloc (.cells (bkC zB).toArray 54)) _;obtain⟨h1,h2,h3,h4,h5⟩:=yG w (.cells #[.int .i64 (k:Int),.slice (some ⟨gs,0,none⟩) m cl,.func (.func ft) #[] ct,.func (.func fm) #[] cm,bv] 137) (.cells cs.toArray 40) (.cells (bkC zB).toArray 54);clear hr;generalize ((w.alloc (.cells #[.int .i64 (k:Int),.slice (some ⟨gs,0,none⟩) m cl,.func (.func ft) #[] ct,.func (.func fm) #[] cm,bv] 137)).alloc (.cells cs.toArray 40)).alloc (.cells (bkC zB).toArray 54)=w3 at*;refine(H.o.1 w3 (Upd.below h5)).mono ?_;rintro e w4 ⟨gl,c4,rfl,hc4,hc5,hr4,hb4⟩;have hu4:=qqb hb4;have f1:=(hu4.block _ (zd h1) (fun h=>h)).trans h1;have f3:=(hu4.block _ (zd h3) (fun h=>h)).trans h3;have m3:w4.cell? ⟨w.heap.size,3,none⟩=some (.func (.func fm) #[] cm):=za f1 3;have H4:=Y5 hr4 (h5.trans hu4) f1 f3 h4;clear h1 h2 h3 h4 h5 hr4 hb4 hu4 f1 f3;go_wp2_with fail
 refine(H.o.2 w4 gl c4 hc4 hc5 (Upd.below H4.o.2.1) H4.o.1).mono ?_;rintro e w5 ⟨rfl,hb5⟩;have hu5:=qqb hb5;obtain⟨r4,u4,f1,f3,z4⟩:=H4.o;have g3:=(hu5.block _ (zd f3) (fun h=>h)).trans f3;have hth:w5.there (w.heap.size+1+1) 0 64:=fun j hj=>by
  rw[za g3,zf g3];exact⟨by rw[qYe,qxe (by rw[zl _ zw];exact hj)];rfl,rfl⟩
 obtain⟨z,Hz⟩:∃z:Bk,Hid (z=zB):=⟨zB,rfl⟩
 have hst:w5.there (w.heap.size+1+1) 0 (bkC z).toArray.size:=by rw[Hz.out,zl _ zw];exact hth
 have hst2:w5.there (w.heap.size+1+1) 0 (bkC z).length:=by rw[Hz.out,zo,zw];exact hth
 have hsz2:(Tryz.prog.info? 54).map (·.size)=some (bkC z).toArray.size:=by rw[Hz.out,zl _ zw];exact zF
 have HST:=Y3 hst hsz2 hst2;have HU:=qqh (u4.trans hu5);clear r4 u4 f1 f3 z4 hst hst2 hsz2 hth hu5 hb5 g3 m3;go_wp2_with (first
   |(refine qZi rfl _ _ _ rfl _ _ (bkC z).toArray rfl (by rw[Hz.out];rfl) HST.o.1 HST.o.2.1 (qYu (zv _)) ?_)
   |fail)
 exact qYw (zn rfl _ _ (w.heap.size+1+1) 0 (bkC z) _ rfl (qYr _ _ _ _ HST.o.2.2) Tryz.underlying54 rfl (by rw[Hz.out];exact zt zB zw)) rfl
  ⟨by rw[Hz.out];rfl,zj (Upd.below HU.o) (zp w5 (w.heap.size+1+1) 0 _) (qXv _) (fun k e=>by omega)⟩
def szS:List Nat:=[6,2,2,2,2,2,1]
def XV(gs gt:Nat):Value:=.agg #[.int .i64 1,.slice (some ⟨gs,0,none⟩) 7 7,.func (.func 125) #[] #[],.func (.func 196) #[] #[.pointer (some ⟨gt,0,none⟩)],.func (.func 127) #[] #[]]
def QL(w:World)(gs gt:Nat):Prop:=w.rangeAt gs 0 (ints (natsI szS))/\Bnd w (.func (.func 196) #[] #[.pointer (some ⟨gt,0,none⟩)]) bndS
theorem SN:(Tryz.prog.info? 137).map (·.size)=some 5:=by kernel_rfl
theorem yo:(Tryz.prog.info? 40).map (·.size)=some 7:=by kernel_rfl
theorem qO(w:World):Calls Tryz.prog 66 #[] w fun e w'=>∃gs gt,e=.returned (XV gs gt)/\QL w' gs gt/\Below w.heap.size w w':=by
 have hmf:=qqf;go_enter Tryz.func66,Tryz.ntmps66
 go_wp2_with fail
 refine(wM).mono ?_;rintro e w1 ⟨rfl,rfl⟩;go_wp2
 obtain⟨h1,h2,h3,h4,h5,h6⟩:=xw w (.cells #[.int .i64 1,.slice (some ⟨w.heap.size+1,0,none⟩) 7 7,.func (.func 125) #[] #[],.func (.func 196) #[] #[.pointer (some ⟨w.heap.size+1+1+1,0,none⟩)],.func (.func 127) #[] #[]] 137) (.cells (ints (natsI szS)).toArray 3)
  (.cells (bndC bndS).toArray 219) (.cells #[.slice (some ⟨w.heap.size+1+1,0,none⟩) 7 7] 321)
 refine qYw (zM rfl _ _ w.heap.size 0 [.int .i64 1,.slice (some ⟨w.heap.size+1,0,none⟩) 7 7,.func (.func 125) #[] #[],.func (.func 196) #[] #[.pointer (some ⟨w.heap.size+1+1+1,0,none⟩)],.func (.func 127) #[] #[]] _ rfl (zg h1) Tryz.underlying137 rfl SN) rfl
  ⟨w.heap.size+1,w.heap.size+1+1+1,rfl,⟨zg h2,w.heap.size+1+1+1,w.heap.size+1+1,7,rfl,za h4 0,zg h3⟩,Upd.below h6⟩
def sectS(xs:List Int):Bk:=sectB 1 (numL szS xs)
theorem sr{xs:List Int}(h:xs.length=7):(sectS xs).length=64:=xo (by rw[wi (by rw[h];rfl)];decide)
def YN(w:World)(xs:List Int)(e:Ending)(w':World):Prop:=
 ((mayS xs=true/\e=.returned (.tuple #[.agg (bkC (sectS xs)).toArray,.int .i64 0]))\/(mayS xs=false/\e=.returned (.tuple #[.agg (bkC zB).toArray,.int .i64 10])))/\Below w.heap.size w w'
theorem QM{w:World}{gs gt:Nat}(hF:QL w gs gt)(hN:Nib w)(cs:List Value)(hcs:cs.length=7)(xs:List Int)(hxl:xs.length=7)
  (htell:∀W,Calls Tryz.prog 125 #[.agg cs.toArray] W (zO W 7 xs)):
  Calls Tryz.prog 65 #[XV gs gt,.agg cs.toArray] w (YN w xs):=by
 obtain⟨hs,hB⟩:=hF;have hcz:(Tryz.prog.info? 40).map (·.size)=some cs.length:=by rw[hcs];exact yo
 have htell':∀W,Below w.heap.size w W->Calls Tryz.prog 125 (#[.agg cs.toArray]++ #[]) W (zO W 7 xs):=fun W _=>htell W;have hmay:∀W gl cc,7<=cc->cc<=maxLen->Below w.heap.size w W->W.rangeAt gl 0 (ints xs)->Calls Tryz.prog 196 (#[.slice (some ⟨gl,0,none⟩) 7 cc]++ #[.pointer (some ⟨gt,0,none⟩)]) W fun e W'=>e=.returned (.bool (mayS xs))/\Below W.heap.size W W':=fun W gl cc hc hc2 hW hr=>
  YM xs hxl hc hc2 (hB.below hW) hr
 cases hm:mayS xs with
 |false=>
  rw[hm]at hmay;exact(SM (w:=w) 1 xs 7 gs 7 125 196 #[] #[.pointer (some ⟨gt,0,none⟩)] (.func (.func 127) #[] #[]) rfl cs hcz (fun _ _=>rfl) (fun _ _=>rfl) htell' hmay).mono
   (fun e w' ⟨he,hb⟩=>⟨.inr ⟨hm,he⟩,hb⟩)
 |true=>
  rw[hm]at hmay;obtain⟨h0,hfit⟩:=sk hxl hm;have e:numsL (numL szS xs)=xs:=wO (by rw[hxl];rfl) h0;rw[<-e]at htell' hmay;exact(QK (w:=w) 1 (by decide) (numL szS xs) hfit 7 (by rw[vT (by rw[hxl];rfl)];rfl) (by decide) gs 7 125 196 #[] #[.pointer (some ⟨gt,0,none⟩)] (.func (.func 127) #[] #[]) rfl cs hcz (by rw[tW (by rw[hxl];rfl)];exact hs) hN (fun _ _=>rfl) (fun _ _=>rfl) htell' hmay).mono
   (fun e w' ⟨he,hb⟩=>⟨.inl ⟨hm,he⟩,hb⟩)
theorem QN{w:World}(hN:Nib w)(cs:List Value)(hcs:cs.length=7)(xs:List Int)(hxl:xs.length=7)
  (htell:∀W,Calls Tryz.prog 125 #[.agg cs.toArray] W (zO W 7 xs)):
  Calls Tryz.prog 19 #[.agg cs.toArray] w (YN w xs):=by
 have HN:=Y2 hN htell;have hcz:(Tryz.prog.info? 40).map (·.size)=some cs.length:=by rw[hcs];exact yo
 have HC:=qqh hcz;have hr:((w.alloc (.cells cs.toArray 40)).alloc (.cells (bkC zB).toArray 54)).rangeAt w.heap.size 0 cs:=qYp (zg (zc w _ rfl)) _;clear hN htell hcz;go_enter Tryz.func19,Tryz.ntmps19
 go_wp2_with fail
 change Code.wp _ _ _ _ ((w.alloc (.cells cs.toArray 40)).alloc (.cells (bkC zB).toArray 54))
 have hg:((w.alloc (.cells cs.toArray 40)).alloc (.cells (bkC zB).toArray 54)).heap[w.heap.size+1]?=some (.cells (bkC zB).toArray 54):=zc _ _ (by simp);have hu:Upd (fun _=>False) w ((w.alloc (.cells cs.toArray 40)).alloc (.cells (bkC zB).toArray 54)):=((uur _ w).alloc _).alloc _;generalize (w.alloc (.cells cs.toArray 40)).alloc (.cells (bkC zB).toArray 54)=w2 at*;have hb2:Below w.heap.size w w2:=Upd.below hu;refine qZj (S:=fun W=>W.rangeAt w.heap.size 0 cs) (by kernel_rfl) (by rw[qYq];exact hr) (fun hHeld=>?_)
 refine' qZf (i:=1) rfl (by kernel_rfl) (by kernel_rfl) (by kernel_rfl) (fun _ _ _ h=>h) (qZl (by rfl) _ _ rfl _ _ rfl _ _ (fun w h=>h) Tryz.underlying40 rfl HC.o) hHeld _
 simp only[qzc,qyw,qyx,Act.put,qXi,qXl,qXk];refine qZe (rs:=[0]) (by kernel_rfl) (by simp) ?_;refine qxb rfl (fun K hK=>?_) qxc;go_simp
 refine(qO _).mono ?_;rintro e w3 ⟨gs,gt,rfl,hF,hb3⟩;have hb3':Below w2.heap.size w2 w3:=yg hb3;refine hK.o _ _ (Below.range hb3 hHeld) (fun hHeld2=>?_);clear hK K;refine qZe (rs:=[2]) (by kernel_rfl) (by simp) ?_;refine qxb rfl (fun K hK=>?_) qxc;go_simp
 refine(QM hF ((HN.o.1.keep hu (fun h=>h)).below hb3') cs hcs xs hxl HN.o.2).mono ?_;rintro e w4 ⟨he,hb4⟩;have hb4':Below w2.heap.size w2 w4:=hb3'.trans (hb4.mono hb3'.size);have hg4:=(hb4'.block _ (zd hg)).trans hg;have hth:w4.there (w.heap.size+1) 0 64:=fun j hj=>by
  rw[za hg4,zf hg4];exact⟨by rw[qYe,qxe (by rw[zl _ zw];exact hj)];rfl,rfl⟩
 obtain⟨y,cd,hy,hres,rfl⟩:∃(y:Bk) (cd:Int),y.length=64/\((mayS xs=true/\y=sectS xs/\cd=0)\/(mayS xs=false/\y=zB/\cd=10))/\e=.returned (.tuple #[.agg (bkC y).toArray,.int .i64 cd]):=by
  rcases he with⟨hm,rfl⟩|⟨hm,rfl⟩
  .exact ⟨_,0,sr hxl,.inl ⟨hm,rfl,rfl⟩,rfl⟩
  .exact ⟨_,10,zw,.inr ⟨hm,rfl,rfl⟩,rfl⟩
 have HR:=Y2 hy hres;clear he hy hres;have hst:w4.there (w.heap.size+1) 0 (bkC y).toArray.size:=by rw[zl _ HR.o.1];exact hth
 have hst2:w4.there (w.heap.size+1) 0 (bkC y).length:=by rw[zo,HR.o.1];exact hth
 have hsz2:(Tryz.prog.info? 54).map (·.size)=some (bkC y).toArray.size:=by rw[zl _ HR.o.1];exact zF
 refine hK.o _ _ (Below.range hb4 hHeld2) (fun hHeld3=>?_);clear hK K;refine qZf (i:=3) (v:=?_) rfl (by kernel_rfl) (by kernel_rfl) (by kernel_rfl) (fun _ _ _ h=>h) (Or.inl ⟨by rfl,?_⟩) hHeld3 ?_
 rotate_left
 .intro W hSw;(try dsimp only at hSw);(try go_split_ands);go_simp;(try with_reducible rfl)
 simp only[qzc,qyw,qyx,Act.put,qXi,qXl,qXk];refine qZf (i:=4) (v:=?_) rfl (by kernel_rfl) (by kernel_rfl) (by kernel_rfl) (fun _ _ _ h=>h) (Or.inl ⟨by rfl,?_⟩) hHeld3 ?_
 rotate_left
 .intro W hSw;(try dsimp only at hSw);(try go_split_ands);go_simp;(try with_reducible rfl)
 simp only[qzc,qyw,qyx,Act.put,qXi,qXl,qXk];have hU5:Below w.heap.size w (w4.setCells (w.heap.size+1) 0 (bkC y)):=zj (hb2.trans (hb4'.mono hu.size)) (zp w4 (w.heap.size+1) 0 _) (qXv _) (fun k e=>by omega);refine qZe (rs:=[5]) (by kernel_rfl) (by simp) ?_;refine qxb rfl (fun K hK=>?_) qxc;rw[if_pos (by rfl)];refine qZk _ _ _ rfl _ _ (List.toArray _) rfl rfl (hst) (hsz2) (qYu (zv _)) ?_;simp only[Act.put,qXi];refine hK.o _ _ ((zp w4 (w.heap.size+1) 0 (bkC y)).range hHeld3 (by omega)) (fun hHeld4=>?_);clear hK K;refine qZe (rs:=[6]) (by kernel_rfl) (by simp) ?_;refine qxb rfl (fun K hK=>?_) qxc;go_simp
 refine hK.o _ _ (hHeld4) (fun _=>?_);clear hK K;refine wpAnyH_done (by kernel_rfl) ?_ _;have HE:=Y2 hU5 hst2;clear hst hst2 hsz2 hU5 hth hg4 hb4 hb4' hb3 hb3' hHeld hHeld2 hHeld3 hHeld4 hF hr hg hu hb2;go_wp2
 refine qYw (zn rfl _ _ (w.heap.size+1) 0 (bkC y) _ rfl (qYr _ _ _ _ HE.o.2) Tryz.underlying54 rfl (zt _ HR.o.1)) rfl ⟨?_,HE.o.1⟩;rcases HR.o.2 with⟨hm,rfl,rfl⟩|⟨hm,rfl,rfl⟩
 .exact .inl ⟨hm,rfl⟩
 .exact .inr ⟨hm,rfl⟩
def dsS(xs:List Int):List Value:=[.int .i64 (xs.getD 0 0),.int .i64 (xs.getD 1 0),.int .i64 (xs.getD 2 0),.int .i64 (xs.getD 3 0),.int .i64 (xs.getD 4 0),.int .i64 (xs.getD 5 0),.int .i64 (xs.getD 6 0)]
theorem Zo(xs:List Int):(dsS xs).length=7:=rfl
theorem Zp(xs:List Int):∀v∈dsS xs,v.oneCell'=true:=by
 intro v hv;simp only[dsS,qzr,qXd,qZb]at hv;rcases hv with rfl|rfl|rfl|rfl|rfl|rfl|rfl<;>rfl
theorem Et{w:World}{gl ol cl:Nat}(xs:List Int)(hxl:xs.length=7)(hx:w.rangeAt gl ol (ints xs)):
  Calls Tryz.prog 127 (#[.slice (some ⟨gl,ol,none⟩) 7 cl]++ #[]) w fun e w'=>e=.returned (.agg (dsS xs).toArray)/\Below w.heap.size w w':=by
 have x0:=yw hx 0 (by omega);have x1:=yw hx 1 (by omega);have x2:=yw hx 2 (by omega);have x3:=yw hx 3 (by omega);have x4:=yw hx 4 (by omega);have x5:=yw hx 5 (by omega);have x6:=yw hx 6 (by omega);rw[qXs]at x0;have hlt:gl<w.heap.size:=qYn w _ x0;have hds:Hid (dsS xs=[.int .i64 (xs.getD 0 0),.int .i64 (xs.getD 1 0),.int .i64 (xs.getD 2 0),.int .i64 (xs.getD 3 0),.int .i64 (xs.getD 4 0),.int .i64 (xs.getD 5 0),.int .i64 (xs.getD 6 0)]):=rfl;generalize xs.getD 0 0=y0 at*;generalize xs.getD 1 0=y1 at*;generalize xs.getD 2 0=y2 at*;generalize xs.getD 3 0=y3 at*;generalize xs.getD 4 0=y4 at*;generalize xs.getD 5 0=y5 at*;generalize xs.getD 6 0=y6 at*;clear hx hxl;go_enter Tryz.func127,Tryz.ntmps127
 go_wp2
 go_region
 go_wp2
 exact qYw (zM rfl _ _ w.heap.size 0 [.int .i64 y0,.int .i64 y1,.int .i64 y2,.int .i64 y3,.int .i64 y4,.int .i64 y5,.int .i64 y6] _ rfl ((qYq ..).2 (zg (zc w _ rfl))) Tryz.underlying40 rfl yo) rfl
  ⟨by rw[hds.out],zS ((qxl _ w).alloc (qXv _) _) 1⟩
theorem AP(y0 y1 y2 y3 y4 y5 y6:Int)(w:World):Calls Tryz.prog 125 #[.agg #[.int .i64 y0,.int .i64 y1,.int .i64 y2,.int .i64 y3,.int .i64 y4,.int .i64 y5,.int .i64 y6]] w (zO w 7 [y0,y1,y2,y3,y4,y5,y6]):=by
 go_enter Tryz.func125,Tryz.ntmps125
 go_wp2
 go_ret
 exact⟨w.heap.size+1,7,rfl,qXv _,by unfold maxLen;omega,zg (zc _ _ (by simp)),((qxl _ w).alloc (qXv _) _).alloc (by simp) _⟩
end Go.Proofs.YtfhfbpmlnjdfoaaGreatDoor
