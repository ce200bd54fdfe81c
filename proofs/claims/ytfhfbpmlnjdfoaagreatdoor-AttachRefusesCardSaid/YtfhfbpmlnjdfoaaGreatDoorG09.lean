/- attach.Format: -/
import Derived.Test.YtfhfbpmlnjdfoaaGreatDoorG08
import Derived.Defers
import Derived.Recover
import Derived.Maps.Views
import Derived.Maps.OwnSet
import Derived.MapKept
import Derived.Shelf.SlMaps.Clone
import Derived.Maps.Range
set_option maxRecDepth 100000
set_option maxHeartbeats 1000000
namespace Go.Proofs.YtfhfbpmlnjdfoaaGreatDoor
open Go Go.RowKit Tryz
theorem QH(p0:Nat)(s:Int)(y:Bk)(w:World):Calls prog 56 #[.int .i64 s,.agg (bkC y).toArray,.pointer (some ⟨p0,0,none⟩)] w
  fun e w'=>e=.returned (.func (.func 57) #[] #[.pointer (some ⟨p0,0,none⟩),.pointer (some ⟨w.heap.size,0,none⟩),.pointer (some ⟨w.heap.size+1,0,none⟩)])/\
   w'=(w.alloc (.cells #[.int .i64 s] 3)).alloc (.cells (bkC y).toArray 54):=by
 have hmf:=qqf;go_enter func56,ntmps56
 go_wp2
 go_ret
 simp
theorem sR{T:Nat->Prop}{w:World}{b p0 p1 p2:Nat}{F:List Bk}{O:List (Nat×Bk)}{P:List Int}(h:Dv T w b F O P)(hn:∀j,w.heap.size<=j->T j)(s:Nat)(y:Bk)(hy:y.length=64)
  (c0:w.cell? ⟨p0,0,none⟩=some (.pointer (some ⟨b,0,none⟩))) (c1:w.cell? ⟨p1,0,none⟩=some (.int .i64 (s:Int))) (r2:w.rangeAt p2 0 (bkC y)) (hs:s<F.length) (hO:O.length<65536):
  Calls prog 57 #[.pointer (some ⟨p0,0,none⟩),.pointer (some ⟨p1,0,none⟩),.pointer (some ⟨p2,0,none⟩)] w (SX T w b (writeR F O P s y)):=by
 have HW:=qqh (wi h hn s hs y hy hO);have hsi:=zw y hy;clear h hn;go_enter func57,ntmps57
 go_wp2_with (first
  |(refine qZg rfl _ _ rfl _ _ rfl _ _ r2 underlying54 rfl hsi ?_)
  |fail)
 refine HW.o.mono ?_;rintro e w2 ⟨rfl,hd,hu⟩;have H2:=Y2 hd hu;obtain⟨cd,hcd⟩:=qqe ((writeR F O P s y).cd);rw[<-hcd];replace hcd:=qqh hcd;clear hd hu HW c0 c1 r2;go_wp2
 go_ret
 exact⟨by rw[<-hcd.out];rfl,H2.o⟩
def zW(k:Nat):List (Nat×Bk):=(List.range k).map fun i=>(i+1,zB)
theorem VJ(k:Nat):zW (k+1)=zW k++[(k+1,zB)]:=by simp[zW,List.range_succ]
theorem QI(k:Nat):(zW k).length=k:=by simp[zW]
theorem ti(F:List Bk)(O:List (Nat×Bk))(s:Nat)(y:Bk):writeR F O [] s y=⟨F,O++[(s,y)],[],0⟩:=rfl
theorem UY{T:Nat->Prop}{w:World}{b pl pd:Nat}{F:List Bk}{O:List (Nat×Bk)}(h:Dv T w b F O [])(hn:∀j,w.heap.size<=j->T j)(z:Nat)(hz1:1<=z)
  (c0:w.cell? ⟨pd,0,none⟩=some (.pointer (some ⟨b,0,none⟩))) (c5:w.cell? ⟨pl,5,none⟩=some (.int .i64 (z:Int))) (hTl:¬T pl) (hTd:¬T pd) (hz:z<=F.length) (hO:O.length<=50000):
  Calls prog 58 #[.pointer (some ⟨pl,0,none⟩),.pointer (some ⟨pd,0,none⟩)] w (SX T w b ⟨F,O++zW (z-1),[],0⟩):=by
 have hfl:=h.good.fl;obtain⟨Z,hZ⟩:=qqe (zB);have HZ:=qqh (wj Z hZ);have HH:=Y7 h hn c0 c5 hTl hTd hZ;clear h hn c0 c5 hTl hTd hZ;go_enter func58,ntmps58
 go_wp2_with fail
 go_loopg[3] (z-1) (fun gk s3 wr=>∃k:Nat,k+gk=z-1/\s3=.int .i64 ((k:Int)+1)/\Dv T wr b F (O++zW k) []/\Upd T w wr)
 case atStart=>exact⟨0,oM,oe,by rw[show zW 0=[]from rfl,qxy];exact HH.o.1,uur _ _⟩
 case round=>
  obtain⟨k,hk,rfl,hd,hu⟩:=hrel;obtain⟨h,hn,c0,c5,hTl,hTd,hZ⟩:=HH.o;have d0:=hu.j4 c0 hTd;have d5:=hu.j4 c5 hTl;by_cases hlt:k+1<z
  .have k1:(k:Int)+1<(z:Int):=oM;have HW:=qqh (wi hd (fun j hj=>hn j (qXx hu.size hj)) (k+1) oM Z (by rw[hZ];exact zK) (by rw[qzd,QI];omega));rw[ti,show((k+1:Nat):Int)=(k:Int)+1 by simp]at HW;have HU:=qqh hu;clear h hn c0 c5 hTl hTd hZ hd hu;go_wp2_with (first
    |(refine yg rfl rfl HZ.o ?_)
    |fail)
   refine HW.o.mono ?_;rintro e w2 ⟨rfl,hd2,hu2⟩;have H2:=Y2 hd2 (HU.o.trans hu2);clear hd2 hu2 HW d0 d5;go_wp2
   go_roundg (gk-1)
   case measure=>omega
   case rel=>
    obtain⟨hd2,hu2⟩:=H2.o;refine⟨k+1,oM,by go_num,?_,hu2⟩;have e:O++zW (k+1)=O++zW k++[(k+1,Z)]:=by rw[VJ,HH.o.2.2.2.2.2.2,qxx]
    rw[e];exact hd2
  .obtain rfl:z=k+1:=oM;have k1:¬((k:Int)+1<((k+1:Nat):Int)):=oM;have k2:¬((k:Int)+1<(k:Int)+1):=oM;have HE:=Y2 hd hu;clear h hn c0 hTl hTd hZ hd hu d0;go_wp2_with fail
   go_ret
   exact⟨rfl,HE.o.1,HE.o.2⟩
theorem QJ{T:Nat->Prop}{w:World}{b pd pl ps:Nat}{F:List Bk}{O:List (Nat×Bk)}(h:Dv T w b F O [])(hn:∀j,w.heap.size<=j->T j)(hN:Nib w)(_hNT:¬T 0)(pa:Nat)(hp1:1<=pa)(hp:1+pa+pa<=F.length)(hO:O.length+pa<65536)
  (c0:w.cell? ⟨pd,0,none⟩=some (.pointer (some ⟨b,0,none⟩))) (l0:w.cell? ⟨pl,0,none⟩=some (.int .i64 1)) (s4:w.cell? ⟨ps,4,none⟩=some (.int .i64 (pa:Int))):
  Calls prog 59 #[.pointer (some ⟨pd,0,none⟩),.pointer (some ⟨pl,0,none⟩),.pointer (some ⟨ps,0,none⟩)] w (SX T w b ⟨flushF F (O++ckO 1 pa (pagesB 0 [])),[],[],0⟩):=by
 have HS:=QG h hn 1 pa 0 0 oM none 0 0 [] rfl (by unfold needN;simpa using hp1) oM hp hO (fun W hW=>sQ 0 oM (hN.below hW));have e:saveR F O [] (ckO (1+0*pa) pa (pagesB 0 []))=⟨flushF F (O++ckO 1 pa (pagesB 0 [])),[],[],0⟩:=by
  rw[qYg,qXs];unfold saveR;have hgo:∀(L O:List (Nat×Bk)),wrsR F L O []=⟨F,O++L,[],0⟩:=by
   intro L
   induction L with
   |nil=>intro O;simp[wrsR]
   |cons x L ih=>
    intro O;rw[wrsR_yes (by rw[ti]),ti,ih];simp
  rw[hgo];rfl
 rw[e]at HS;replace HS:=qqh HS;clear h hn hN _hNT e;go_enter func59,ntmps59
 go_wp2_with fail
 refine HS.o.mono ?_;rintro e w2 ⟨rfl,hd,hu⟩;have H2:=Y2 hd hu;clear hd hu HS c0 l0 s4;go_wp2
 go_ret
 exact⟨rfl,H2.o⟩
def bndS:List (Int×Int):=[(0,1099511627776),(1,4096),(1,1024),(1,4096),(1,4096),(1,4096),(1,64)]
def mayS(xs:List Int):Bool:=withinB bndS xs
theorem YY{w:World}{gl ol cl gt:Nat}(xs:List Int)(hxl:xs.length=7)(_hcl:7<=cl)(_hcm:cl<=maxLen)(hB:Bnd w (.func (.func 196) #[] #[.pointer (some ⟨gt,0,none⟩)]) bndS)(hx:w.rangeAt gl ol (ints xs)):
  Calls prog 196 (#[.slice (some ⟨gl,ol,none⟩) 7 cl]++ #[.pointer (some ⟨gt,0,none⟩)]) w fun e w'=>e=.returned (.bool (mayS xs))/\Below w.heap.size w w':=by
 obtain⟨g,h,c,hv,hc,hb⟩:=hB;cases hv;exact yS (cl:=cl) bndS xs hc hb hx hxl (by show 7<=7;decide) de
theorem sS{xs:List Int}(hx:xs.length=7)(h:mayS xs=true):(∀x∈xs,0<=x)/\Zt (numL [6,2,2,2,2,2,1] xs):=by
 have h1:withinB bndS xs=true:=h;have a0:=zH h1 (i:=0) de oM;have a1:=zH h1 (i:=1) de oM;have a2:=zH h1 (i:=2) de oM;have a3:=zH h1 (i:=3) de oM;have a4:=zH h1 (i:=4) de oM;have a5:=zH h1 (i:=5) de oM;have a6:=zH h1 (i:=6) de oM;simp[bndS]at a0 a1 a2 a3 a4 a5 a6;have hb:∀i (h1:i<xs.length) (h2:i<[6,2,2,2,2,2,1].length),0<=xs[i]/\xs[i]<256^[6,2,2,2,2,2,1][i]:=by
  intro i hi hi2;rcases i with _|_|_|_|_|_|_|i
  all_goals first|(simp at hi2;omega)|(simp;omega)
 refine⟨fun x hx'=>?_,uU jX de de hb⟩;obtain⟨i,hi,rfl⟩:=qza hx';exact(hb i hi (by rw[hx]at hi;exact hi)).1
def szS:List Nat:=[6,2,2,2,2,2,1]
def Wz(gs gt:Nat):Value:=.agg #[.int .i64 1,.slice (some ⟨gs,0,none⟩) 7 7,.func (.func 125) #[] #[],.func (.func 196) #[] #[.pointer (some ⟨gt,0,none⟩)],.func (.func 127) #[] #[]]
def QK(w:World)(gs gt:Nat):Prop:=w.rangeAt gs 0 (ints (natsI szS))/\Bnd w (.func (.func 196) #[] #[.pointer (some ⟨gt,0,none⟩)]) bndS
theorem Jw:(prog.info? 137).map (·.size)=some 5:=kR
theorem yz:(prog.info? 40).map (·.size)=some 7:=kR
theorem vW(w:World):Calls prog 66 #[] w fun e w'=>∃gs gt,e=.returned (Wz gs gt)/\QK w' gs gt/\Below w.heap.size w w':=by
 have hmf:=qqf;go_enter func66,ntmps66
 go_wp2_with fail
 refine(xu).mono ?_;rintro e w1 ⟨rfl,rfl⟩;go_wp2
 obtain⟨h1,h2,h3,h4,h5,h6⟩:=xC w (.cells #[.int .i64 1,.slice (some ⟨w.heap.size+1,0,none⟩) 7 7,.func (.func 125) #[] #[],.func (.func 196) #[] #[.pointer (some ⟨w.heap.size+1+1+1,0,none⟩)],.func (.func 127) #[] #[]] 137) (.cells (ints (natsI szS)).toArray 3)
  (.cells (bndC bndS).toArray 219) (.cells #[.slice (some ⟨w.heap.size+1+1,0,none⟩) 7 7] 321)
 refine qYw (zI rfl _ _ w.heap.size 0 [.int .i64 1,.slice (some ⟨w.heap.size+1,0,none⟩) 7 7,.func (.func 125) #[] #[],.func (.func 196) #[] #[.pointer (some ⟨w.heap.size+1+1+1,0,none⟩)],.func (.func 127) #[] #[]] _ rfl (zh h1) underlying137 rfl Jw) rfl
  ⟨w.heap.size+1,w.heap.size+1+1+1,rfl,⟨zh h2,w.heap.size+1+1+1,w.heap.size+1+1,7,rfl,za h4 0,zh h3⟩,Upd.below h6⟩
def sectS(xs:List Int):Bk:=sectB 1 (numL szS xs)
theorem sU{xs:List Int}(h:xs.length=7):(sectS xs).length=64:=vt jG
def YZ(w:World)(xs:List Int)(e:Ending)(w':World):Prop:=
 ((mayS xs=true/\e=.returned (.tuple #[.agg (bkC (sectS xs)).toArray,.int .i64 0]))\/(mayS xs=false/\e=.returned (.tuple #[.agg (bkC zB).toArray,.int .i64 10])))/\Below w.heap.size w w'
theorem QL{w:World}{gs gt:Nat}(hF:QK w gs gt)(hN:Nib w)(cs:List Value)(hcs:cs.length=7)(xs:List Int)(hxl:xs.length=7)
  (htell:∀W,Calls prog 125 #[.agg cs.toArray] W (zS W 7 xs)):
  Calls prog 65 #[Wz gs gt,.agg cs.toArray] w (YZ w xs):=by
 obtain⟨hs,hB⟩:=hF;have hcz:(prog.info? 40).map (·.size)=some cs.length:=by rw[hcs];exact yz
 have htell':∀W,Below w.heap.size w W->Calls prog 125 (#[.agg cs.toArray]++ #[]) W (zS W 7 xs):=fun W _=>htell W;have hmay:∀W gl cc,7<=cc->cc<=maxLen->Below w.heap.size w W->W.rangeAt gl 0 (ints xs)->Calls prog 196 (#[.slice (some ⟨gl,0,none⟩) 7 cc]++ #[.pointer (some ⟨gt,0,none⟩)]) W fun e W'=>e=.returned (.bool (mayS xs))/\Below W.heap.size W W':=fun W gl cc hc hc2 hW hr=>
  YY xs hxl hc hc2 (hB.below hW) hr
 cases hm:mayS xs with
 |false=>
  rw[hm]at hmay;exact(Jm (w:=w) 1 xs 7 gs 7 125 196 #[] #[.pointer (some ⟨gt,0,none⟩)] (.func (.func 127) #[] #[]) rfl cs hcz (fun _ _=>rfl) (fun _ _=>rfl) htell' hmay).mono
   (fun e w' ⟨he,hb⟩=>⟨.inr ⟨hm,he⟩,hb⟩)
 |true=>
  rw[hm]at hmay;obtain⟨h0,hfit⟩:=sS hxl hm;have e:numsL (numL szS xs)=xs:=uT jQ h0;rw[<-e]at htell' hmay;exact(Qu (w:=w) 1 de (numL szS xs) hfit 7 (by rw[qI jQ];rfl) de gs 7 125 196 #[] #[.pointer (some ⟨gt,0,none⟩)] (.func (.func 127) #[] #[]) rfl cs hcz (by rw[YN jQ];exact hs) hN (fun _ _=>rfl) (fun _ _=>rfl) htell' hmay).mono
   (fun e w' ⟨he,hb⟩=>⟨.inl ⟨hm,he⟩,hb⟩)
theorem QM{w:World}(hN:Nib w)(cs:List Value)(hcs:cs.length=7)(xs:List Int)(hxl:xs.length=7)
  (htell:∀W,Calls prog 125 #[.agg cs.toArray] W (zS W 7 xs)):
  Calls prog 19 #[.agg cs.toArray] w (YZ w xs):=by
 have HN:=Y2 hN htell;have hcz:(prog.info? 40).map (·.size)=some cs.length:=by rw[hcs];exact yz
 have HC:=qqh hcz;have hr:((w.alloc (.cells cs.toArray 40)).alloc (.cells (bkC zB).toArray 54)).rangeAt w.heap.size 0 cs:=qYp (zh (zc w _ rfl)) _;clear hN htell hcz;go_enter func19,ntmps19
 go_wp2_with fail
 change Code.wp _ _ _ _ ((w.alloc (.cells cs.toArray 40)).alloc (.cells (bkC zB).toArray 54))
 have hg:((w.alloc (.cells cs.toArray 40)).alloc (.cells (bkC zB).toArray 54)).heap[w.heap.size+1]?=some (.cells (bkC zB).toArray 54):=zc _ _ oe;have hu:Upd (fun _=>False) w ((w.alloc (.cells cs.toArray 40)).alloc (.cells (bkC zB).toArray 54)):=((uur _ w).alloc _).alloc _;generalize (w.alloc (.cells cs.toArray 40)).alloc (.cells (bkC zB).toArray 54)=w2 at*;have hb2:Below w.heap.size w w2:=Upd.below hu;refine qZj (S:=fun W=>W.rangeAt w.heap.size 0 cs) kR oE (fun hHeld=>?_)
 refine' qZf (i:=1) rfl kR kR kR (fun _ _ _ h=>h) (qZl oD _ _ rfl _ _ rfl _ _ (fun w h=>h) underlying40 rfl HC.o) hHeld _
 simp only[qzc,qyw,qyx,Act.put,qXi,qXl,qXk];refine qZe (rs:=[0]) kR oe ?_;refine qxb rfl (fun K hK=>?_) qxc;go_simp
 refine(vW _).mono ?_;rintro e w3 ⟨gs,gt,rfl,hF,hb3⟩;have hb3':Below w2.heap.size w2 w3:=yu hb3;refine hK.o _ _ (Below.range hb3 hHeld) (fun hHeld2=>?_);clear hK K;refine qZe (rs:=[2]) kR oe ?_;refine qxb rfl (fun K hK=>?_) qxc;go_simp
 refine(QL hF ((HN.o.1.keep hu id).below hb3') cs hcs xs hxl HN.o.2).mono ?_;rintro e w4 ⟨he,hb4⟩;have hb4':Below w2.heap.size w2 w4:=hb3'.trans (hb4.mono hb3'.size);have hg4:=(hb4'.block _ (zf hg)).trans hg;have hth:w4.there (w.heap.size+1) 0 64:=fun j hj=>by
  rw[za hg4,zg hg4];exact⟨by rw[qYe,qxe oT];rfl,rfl⟩
 obtain⟨y,cd,hy,hres,rfl⟩:∃(y:Bk) (cd:Int),y.length=64/\((mayS xs=true/\y=sectS xs/\cd=0)\/(mayS xs=false/\y=zB/\cd=10))/\e=.returned (.tuple #[.agg (bkC y).toArray,.int .i64 cd]):=by
  rcases he with⟨hm,rfl⟩|⟨hm,rfl⟩
  .exact ⟨_,0,sU hxl,.inl ⟨hm,rfl,rfl⟩,rfl⟩
  .exact ⟨_,10,zK,.inr ⟨hm,rfl,rfl⟩,rfl⟩
 have HR:=Y2 hy hres;clear he hy hres;have hst:w4.there (w.heap.size+1) 0 (bkC y).toArray.size:=by rw[zp _ HR.o.1];exact hth
 have hst2:w4.there (w.heap.size+1) 0 (bkC y).length:=by rw[zo,HR.o.1];exact hth
 have hsz2:(prog.info? 54).map (·.size)=some (bkC y).toArray.size:=by rw[zp _ HR.o.1];exact zP
 refine hK.o _ _ (Below.range hb4 hHeld2) (fun hHeld3=>?_);clear hK K;refine qZf (i:=3) (v:=?_) rfl kR kR kR (fun _ _ _ h=>h) (Or.inl ⟨by rfl,?_⟩) hHeld3 ?_
 rotate_left
 .intro W hSw;(try dsimp only at hSw);(try go_split_ands);go_simp;(try with_reducible rfl)
 simp only[qzc,qyw,qyx,Act.put,qXi,qXl,qXk];refine qZf (i:=4) (v:=?_) rfl kR kR kR (fun _ _ _ h=>h) (Or.inl ⟨by rfl,?_⟩) hHeld3 ?_
 rotate_left
 .intro W hSw;(try dsimp only at hSw);(try go_split_ands);go_simp;(try with_reducible rfl)
 simp only[qzc,qyw,qyx,Act.put,qXi,qXl,qXk];have hU5:Below w.heap.size w (w4.setCells (w.heap.size+1) 0 (bkC y)):=zk (hb2.trans (hb4'.mono hu.size)) (zq w4 (w.heap.size+1) 0 _) (qXv _) (fun k e=>oM);refine qZe (rs:=[5]) kR oe ?_;refine qxb rfl (fun K hK=>?_) qxc;rw[if_pos oD];refine qZk _ _ _ rfl _ _ (List.toArray _) rfl rfl (hst) (hsz2) (qYu (zx _)) ?_;simp only[Act.put,qXi];refine hK.o _ _ ((zq w4 (w.heap.size+1) 0 (bkC y)).range hHeld3 oM) (fun hHeld4=>?_);clear hK K;refine qZe (rs:=[6]) kR oe ?_;refine qxb rfl (fun K hK=>?_) qxc;go_simp
 refine hK.o _ _ (hHeld4) (fun _=>?_);clear hK K;refine wpAnyH_done kR ?_ _;have HE:=Y2 hU5 hst2;clear hst hst2 hsz2 hU5 hth hg4 hb4 hb4' hb3 hb3' hHeld hHeld2 hHeld3 hHeld4 hF hr hg hu hb2;go_wp2
 refine qYw (zt rfl _ _ (w.heap.size+1) 0 (bkC y) _ rfl (qYr _ _ _ _ HE.o.2) underlying54 rfl (zw _ HR.o.1)) rfl ⟨?_,HE.o.1⟩;rcases HR.o.2 with⟨hm,rfl,rfl⟩|⟨hm,rfl,rfl⟩
 .exact .inl ⟨hm,rfl⟩
 .exact .inr ⟨hm,rfl⟩
def idxI(l:List Int)(k:Int):Int:=match l.findIdx? (·==k)with|some i=>(i:Int)|none=> -1
theorem QN{l:List Int}{k:Int}{i:Nat}(hi:i<l.length)(he:l[i]=k)(hb:∀j (h:j<l.length),j<i->l[j]≠k):idxI l k=i:=by
 unfold idxI;have:l.findIdx? (·==k)=some i:=by
  rw[List.findIdx?_eq_some_iff_getElem];exact⟨hi,by simpa using he,fun j hj=>by simpa using hb j oM hj⟩
 rw[this]
theorem sV{l:List Int}{k:Int}(hb:∀j (h:j<l.length),l[j]≠k):idxI l k= -1:=by
 unfold idxI;have:l.findIdx? (·==k)=none:=by
  rw[List.findIdx?_eq_none_iff];intro x hx;obtain⟨j,hj,rfl⟩:=qza hx;simpa using hb j hj
 rw[this]
theorem WA{w:World}{v:Value}{l:List Int}(h:Rd w 1 v l.length (ints l))(hle:l.length<=4096)(k:Int):
  Calls prog 320 #[v,.int .i64 k] w fun e w'=>e=.returned (.int .i64 (idxI l k))/\w'=w:=by
 have H:=qqh h;obtain⟨ao,c,rfl⟩:=h.j7;clear h;go_enter func320,ntmps320
 go_wp2
 go_loopg[8] l.length (fun g i wr=>∃j:Nat,j+g=l.length/\i=.int .i64 j/\(∀m (h:m<l.length),m<j->l[m]≠k)/\wr=w)
 case atStart=>exact⟨0,oM,rfl,fun m h hm=>oM,rfl⟩
 case round=>
  obtain⟨j,hj,rfl,hno,rfl⟩:=hrel;by_cases hlt:j<l.length
  .obtain ⟨g,off,c',hv,hg,hc⟩:=H.o.at oM;cases hv;have hcj:=hc j _ (yt hlt);have HN:=qqh hno;clear hc hno;by_cases he:l[j]=k
   .have hb:(k==l[j])=true:=by simp[he]
    have ha:Hid (idxI l k=j):=QN hlt he HN.o;clear he;go_wp2
    go_ret
    exact⟨by rw[ha.out];rfl,rfl⟩
   .have hb:(k==l[j])=false:=by simp;exact fun e=>he e.symm
    have hne:Hid (l[j]≠k):=he;clear he;go_wp2
    go_roundg (gk-1)
    case measure=>omega
    case rel=>exact⟨j+1,oM,by go_num,fun m hm hmj=>by
     by_cases e:m=j
     .subst e;exact hne.out
     .exact HN.o m hm oM,rfl⟩
  .obtain rfl:j=l.length:=oM;have ha:Hid (idxI l k= -1):=sV (fun m hm=>hno m hm hm);clear hno;go_wp2
   go_ret
   exact⟨by rw[ha.out];rfl,rfl⟩
theorem UZ(p:Value)(w:World):
  CallsD prog 319 #[p] .returning w fun e u' w'=>e=.returned (.tuple #[])/\u'=.returning/\w'=w:=by
 refine callsD_of_wpS func319 rfl fun c₀ cs hu=>?_;apply wpS_seq;apply wpS_region;simp[wpOpsS,go_sem,recoverD,hu,ntmps319,Exit.thenS];refine wpS_cond (t:=false) oG ?_;simp only[Bool.false_eq_true,if_false];refine wpS_of_wp (wp_skip ?_);cases c₀
 simp_all[bodyPostS,results,results319]
theorem sx(p:Value)(w:World):
  CallsD prog 302 #[p] .returning w fun e u' w'=>e=.returned (.tuple #[])/\u'=.returning/\w'=w:=by
 refine callsD_of_wpS func302 rfl fun c₀ cs hu=>?_;apply wpS_seq;apply wpS_region;simp[wpOpsS,go_sem,recoverD,hu,ntmps302,Exit.thenS];refine wpS_cond (t:=false) oG ?_;simp only[Bool.false_eq_true,if_false];refine wpS_of_wp (wp_skip ?_);cases c₀
 simp_all[bodyPostS,results,results302]
theorem WB(p:Value)(w:World):
  CallsD prog 234 #[p] .returning w fun e u' w'=>e=.returned (.tuple #[])/\u'=.returning/\w'=w:=by
 refine callsD_of_wpS func234 rfl fun c₀ cs hu=>?_;apply wpS_seq;apply wpS_region;simp[wpOpsS,go_sem,recoverD,hu,ntmps234,Exit.thenS];refine wpS_cond (t:=false) oG ?_;simp only[Bool.false_eq_true,if_false];refine wpS_of_wp (wp_skip ?_);cases c₀
 simp_all[bodyPostS,results,results234]
theorem xk{w:World}{v:Value}{l:List Int}(h:Rd w 1 v l.length (ints l))(hle:l.length<=4096)(k:Int):
  Calls prog 273 #[v,.int .i64 k] w fun e w'=>e=.returned (.int .i64 (idxI l k))/\Below w.heap.size w w':=by
 have hmf:=qqf;have HF:=qqh (fun(w1:World) (h1:Rd w1 1 v l.length (ints l))=>WA h1 hle k);have H:=qqh h;clear h
 go_enter_defers func273,ntmps273
 go_wp2_with fail
 refine(HF.o _ (H.o.keep ((uur (fun _=>False) w).alloc _) (fun _ _ h=>h))).mono ?_;rintro e w1 ⟨rfl,rfl⟩;go_wp2
 refine leaves_cons (f:=319) (args:= #[.pointer (some ⟨w.heap.size,0,none⟩)]) oe jM ?_;refine(UZ _ _).mono ?_;rintro e u' w'' ⟨rfl,rfl,rfl⟩;simp[Leaves,settle,results,results273,go_sem];exact(qxl _ _).alloc (qXv _) _
def upd1(f:Int->Option Nat)(s:Int)(o:Option Nat):Int->Option Nat:=fun x=>if x=s then o else f x
def atOf(ps:List (Int×Bool))(s:Int):Option Nat:=if s<0 then none else ps.findIdx? (fun p=>p.1==s)
structure Good(ps:List (Int×Bool))(slots:Nat):Prop where
 each:∀k (h:k<ps.length),ps[k]=(-1,false)\/(0<=ps[k].1/\ps[k].1<slots)
 inj:∀i j (hi:i<ps.length) (hj:j<ps.length),0<=ps[i].1->ps[i].1=ps[j].1->i=j
theorem yU{ps:List (Int×Bool)}{s:Int}{k:Nat}(h:atOf ps s=some k):0<=s/\∃h:k<ps.length,ps[k].1=s:=by
 unfold atOf at h;split at h
 .cases h
 .rw [List.findIdx?_eq_some_iff_getElem]at h;obtain⟨hk,h1,_⟩:=h;exact⟨oM,hk,by simpa using h1⟩
theorem sW{ps:List (Int×Bool)}{s:Int}(h:atOf ps s=none)(hs:0<=s){k:Nat}(hk:k<ps.length):ps[k].1≠s:=by
 unfold atOf at h;rw[if_neg oM,List.findIdx?_eq_none_iff]at h;have:=h ps[k] (qyz hk);simpa using this
theorem Good.at{ps:List (Int×Bool)}{slots:Nat}(h:Good ps slots){k:Nat}(hk:k<ps.length)(h0:0<=ps[k].1):atOf ps ps[k].1=some k:=by
 cases ha:atOf ps ps[k].1 with
 |none=>exact absurd rfl (sW ha h0 hk)
 |some j=>
  obtain⟨_,hj,he⟩:=yU ha;rw[h.inj k j hk hj h0 he.symm]
theorem Good.iff{ps:List (Int×Bool)}{slots:Nat}(h:Good ps slots){s:Int}{k:Nat}:atOf ps s=some k↔0<=s/\∃h:k<ps.length,ps[k].1=s:=
 ⟨yU,fun⟨h0,hk,he⟩=>by subst he;exact h.at hk h0⟩
theorem ZA{α:Type}{o p:Option α}(h:∀a,o=some a↔p=some a):o=p:=by
 cases o with
 |none=>cases p with
  |none=>rfl
  |some b=>exact absurd ((h b).2 rfl) oe
 |some a=>exact((h a).1 rfl).symm
theorem Good.start(n slots:Nat):Good (List.replicate n (-1,false)) slots:=
 ⟨fun k h=> .inl oe,fun i j hi hj h0 _=>by simp at h0⟩
theorem WC(n:Nat):atOf (List.replicate n (-1,false))=fun _=>none:=by
 funext s
 cases h:atOf (List.replicate n (-1,false)) s with
 |none=>rfl
 |some k=>
  obtain⟨h0,hk,he⟩:=yU h;simp at he;omega
section
variable{ps:List (Int×Bool)}{slots k:Nat}
theorem Good.drop(h:Good ps slots)(k:Nat):Good (ps.set k (-1,false)) slots:=by
 refine⟨fun i hi=>?_,fun i j hi hj h0 he=>?_⟩
 .rw [qzb];split
  .exact .inl rfl
  .exact h.each i ox
 .rw [qzb]at h0 he;rw[qzb]at he;by_cases h1:k=i
  .simp [h1]at h0
  .by_cases h2:k=j
   .rw [if_neg h1,if_pos h2]at he;rw[if_neg h1]at h0;simp at he;omega
   .rw [if_neg h1,if_neg h2]at he;rw[if_neg h1]at h0;exact h.inj i j ox ow h0 he
theorem Good.atOf_drop(h:Good ps slots)(hk:k<ps.length):atOf (ps.set k (-1,false))=upd1 (atOf ps) ps[k].1 none:=by
 funext s
 refine ZA fun a=>?_;rw[(h.drop k).iff];unfold upd1;constructor
 .rintro ⟨h0,ha,he⟩;rw[qzb]at he;split at he
  .simp at he;omega
  .rename_i hne
   have ha':a<ps.length:=by simpa using ha
   subst he;split
   .rename_i e
    exact absurd (h.inj a k ha' hk h0 e) (fun e=>hne e.symm)
   .exact h.at ha' h0
 .intro e;split at e
  .cases e
  .rename_i hne
   obtain⟨h0,ha,he⟩:=yU e;refine⟨h0,by simpa using ha,?_⟩;rw[qzb];split
   .rename_i e2
    subst e2;exact absurd he.symm hne
   .exact he
def mayPut(ps:List (Int×Bool))(k:Nat)(s:Int):Prop:=atOf ps s=none\/atOf ps s=some k
theorem tj(h:Good ps slots){s:Int}(hm:mayPut ps k s)(h0:0<=s){i:Nat}(hi:i<ps.length)(hne:i≠k):ps[i].1≠s:=by
 rcases hm with hm|hm
 .exact sW hm h0 hi
 .intro e;subst e;have:=h.at hi h0;rw[this]at hm;exact hne (by injection hm)
theorem Good.put(h:Good ps slots)(_:k<ps.length){s:Int}(d:Bool)(h0:0<=s)(h1:s<slots)(hm:mayPut ps k s):Good (ps.set k (s,d)) slots:=by
 refine⟨fun i hi=>?_,fun i j hi hj h2 he=>?_⟩
 .rw [qzb];split
  .exact .inr ⟨h0,h1⟩
  .exact h.each i ox
 .have hi':i<ps.length:=by simpa using hi
  have hj':j<ps.length:=by simpa using hj
  rw[qzb]at h2 he;rw[qzb]at he;by_cases e1:k=i
  .by_cases e2:k=j
   .exact e1.symm.trans e2
   .rw [if_pos e1,if_neg e2]at he;exact absurd he.symm (tj h hm h0 hj' (fun e=>e2 e.symm))
  .by_cases e2:k=j
   .rw [if_neg e1,if_pos e2]at he;exact absurd he (tj h hm h0 hi' (fun e=>e1 e.symm))
   .rw [if_neg e1,if_neg e2]at he;rw[if_neg e1]at h2;exact h.inj i j hi' hj' h2 he
theorem Good.atOf_put(h:Good ps slots)(hk:k<ps.length){s:Int}(d:Bool)(h0:0<=s)(h1:s<slots)(hm:mayPut ps k s):atOf (ps.set k (s,d))=upd1 (upd1 (atOf ps) ps[k].1 none) s (some k):=by
 funext x
 refine ZA fun a=>?_;rw[(h.put hk d h0 h1 hm).iff];simp only[upd1];constructor
 .rintro ⟨hx,ha,he⟩;have ha':a<ps.length:=by simpa using ha
  rw[qzb]at he;by_cases e:k=a
  .rw [if_pos e]at he;simp at he;rw[if_pos he.symm,e]
  .rw [if_neg e]at he;subst he;rw[if_neg (tj h hm h0 ha' (fun e'=>e e'.symm))];split
   .rename_i e3
    exact absurd (h.inj a k ha' hk hx e3) (fun e'=>e e'.symm)
   .exact h.at ha' hx
 .intro e;by_cases hxs:x=s
  .rw [if_pos hxs]at e;cases e;refine⟨oM,by simpa using hk,?_⟩;rw[qzb,if_pos rfl];exact hxs.symm
  .rw [if_neg hxs]at e;split at e
   .cases e
   .rename_i hne
    obtain⟨hx,ha,he⟩:=yU e;refine⟨hx,by simpa using ha,?_⟩;rw[qzb];split
    .rename_i e2
     subst e2;exact absurd he.symm hne
    .exact he
theorem Good.clean(h:Good ps slots)(hk:k<ps.length)(h0:0<=ps[k].1):Good (ps.set k (ps[k].1,false)) slots:=by
 refine⟨fun i hi=>?_,fun i j hi hj h2 he=>?_⟩
 .rw [qzb];split
  .rcases h.each k hk with e|e
   .rw [e]at h0;simp at h0
   .exact .inr e
  .exact h.each i ox
 .have e1:∀(x:Nat) (hx:x<(ps.set k (ps[k].1,false)).length),((ps.set k (ps[k].1,false))[x]).1=(ps[x]'(by simpa using hx)).1:=by
   intro x hx;rw[qzb];split
   .rename_i e;subst e;rfl
   .rfl
  rw[e1]at h2 he;rw[e1]at he;exact h.inj i j ox ow h2 he
theorem Good.atOf_clean(h:Good ps slots)(hk:k<ps.length)(h0:0<=ps[k].1):atOf (ps.set k (ps[k].1,false))=atOf ps:=by
 funext x
 refine ZA fun a=>?_;rw[(h.clean hk h0).iff,h.iff];have e1:∀(x:Nat) (hx:x<(ps.set k (ps[k].1,false)).length),((ps.set k (ps[k].1,false))[x]).1=(ps[x]'(by simpa using hx)).1:=by
  intro x hx;rw[qzb];split
  .rename_i e;subst e;rfl
  .rfl
 constructor
 .rintro ⟨hx,ha,he⟩;rw[e1]at he;exact⟨hx,by simpa using ha,he⟩
 .rintro ⟨hx,ha,he⟩;exact⟨hx,by simpa using ha,by rw[e1];exact he⟩
end
open Go Go.RowKit Go.Maps Tryz
def MapAt(w:World)(mb N:Nat)(f:Int->Option Nat):Prop:=
 ∃D:DataW Unit,w.ownsMap prog 3 (plainElem prog 3) mb N D/\
  ∀s:Int,Maps.has D (.int .i64 s)=(f s).isSome/\∀c,f s=some c->∀z,D.atKey (.int .i64 s) z=.lit (.int .i64 (c:Int))
theorem yC:Keyed prog 3:=int_keyed underlying3
theorem wfI{x:Int}(h1: -9223372036854775808<=x)(h2:x<9223372036854775808):(Lit.int .i64 x).wf=true:=by
 have e1:IntKind.i64.min= -9223372036854775808:=de;have e2:IntKind.i64.max=9223372036854775807:=de;simp only[Lit.wf,e1,e2,qxo,qYz];omega
theorem qc{x:Int}(h1: -9223372036854775808<=x)(h2:x<9223372036854775808):keyOf prog 3 (.int .i64 x)=some (.int .i64 x):=keyOf_int_mk underlying3 (wfI h1 h2)
theorem MapAt.lt{w:World}{mb N:Nat}{f:Int->Option Nat}(h:MapAt w mb N f):mb<w.heap.size:=by obtain⟨D,h,_⟩:=h;exact h.lt
theorem MapAt.keep{w w':World}{mb N:Nat}{f:Int->Option Nat}(h:MapAt w mb N f){S:Nat->Prop}(hu:Upd S w w')(hs:¬S mb):MapAt w' mb N f:=by
 obtain⟨D,⟨es,clock,hb,r⟩,hf⟩:=h;exact⟨D,⟨es,clock,(hu.block _ (zf hb) hs).trans hb,r⟩,hf⟩
theorem MapAt.mono{w:World}{mb N N':Nat}{f:Int->Option Nat}(h:MapAt w mb N f)(hn:N<=N'):MapAt w mb N' f:=by obtain⟨D,h,hf⟩:=h;exact⟨D,h.mono hn,hf⟩
theorem MapAt.made(w:World):MapAt (w.alloc (.map #[] 0)) w.heap.size 0 (fun _=>none):=
 ⟨.map [],World.ownsMap_made w _ _ _,fun s=>⟨rfl,fun c h=>by cases h⟩⟩
theorem yD{w w':World}{b:Nat}(h:w.mapTurned w' b):Upd (fun j=>j=b) w w':=by
 obtain⟨a,b',c,d,e⟩:=h.grown;exact⟨a,b',c,d,fun i hi hs=>e i hi (fun e=>hs (by simpa using e))⟩
theorem yw{w w':World}{b:Nat}(h:w.mapTurned w' b):w'.heap.size=w.heap.size:=by
 obtain⟨es,clock,es',clock',hb,rfl⟩:=h;simp[Go.ChangeMaps.setBlock]
theorem QO(w:World):(zeroValue 3).run prog w=.ok (.int .i64 0) w:=by
 exact Tryz.zeroValue3 w
theorem MapAt.look{w:World}{mb N:Nat}{f:Int->Option Nat}(h:MapAt w mb N f){x:Int}(h1: -9223372036854775808<=x)(h2:x<9223372036854775808):
  (Instr.lookup 116 (.map (some mb)) (.int .i64 x) true).run prog w=.ok (.tuple #[.int .i64 (((f x).getD 0:Nat):Int),.bool (f x).isSome]) w:=by
 obtain⟨D,ho,hf⟩:=h;obtain⟨v,ps,hr,hv⟩:=ho.look_ok yC underlying116 (QO w) (plainElem_int underlying3 de) (qc h1 h2);obtain⟨c,rfl,hc,hwc⟩:=plainElem_int_inv underlying3 hv;simp only[qYk]at hc;rw[hr,(hf x).1];have:c=(((f x).getD 0:Nat):Int):=by
  cases hx:f x with
  |none=>
   have h0:=(hf x).1;rw[hx]at h0;have:=atKey_of_not_has (D:=D) h0 (.lit (.int .i64 0));rw[this]at hc;simp at hc;simpa using hc.1.symm
  |some c'=>
   have:=(hf x).2 c' hx (.lit (.int .i64 0));rw[this]at hc;simp at hc;simpa using hc.1.symm
 rw[this]
theorem MapAt.drop{w:World}{mb N:Nat}{f:Int->Option Nat}(h:MapAt w mb N f){x:Int}(h1: -9223372036854775808<=x)(h2:x<9223372036854775808)(ty:TypeId):
  ∃w',(Builtin.delete_ #[116,3] ty #[.map (some mb),.int .i64 x]).run prog w=.ok (.tuple #[]) w'/\MapAt w' mb N (upd1 f x none)/\Upd (fun j=>j=mb) w w'/\w'.heap.size=w.heap.size:=by
 obtain⟨D,ho,hf⟩:=h;obtain⟨w',hr,ho',ht⟩:=ho.drop yC underlying116 (qc h1 h2) ty;refine⟨w',hr,⟨_,ho',fun s=>?_⟩,yD ht,yw ht⟩;by_cases hs:s=x
 .subst hs;simp[upd1,has_del_same]
 .have hne:Lit.int .i64 s≠Lit.int .i64 x:=fun e=>hs (by injection e);simp only[upd1,if_neg hs,has_del_other hne];exact⟨(hf s).1,fun c hc z=>by rw[atKey_del_other hne];exact(hf s).2 c hc z⟩
theorem MapAt.store{w:World}{mb N:Nat}{f:Int->Option Nat}(h:MapAt w mb N f){x:Int}(h1: -9223372036854775808<=x)(h2:x<9223372036854775808)(c:Nat)(hc:c<9223372036854775808)(hn:N<maxLen):
  ∃w',(Instr.mapUpdate 116 (.map (some mb)) (.int .i64 x) (.int .i64 (c:Int))).run prog w=.ok () w'/\MapAt w' mb (N+1) (upd1 f x (some c))/\Upd (fun j=>j=mb) w w'/\w'.heap.size=w.heap.size:=by
 obtain⟨D,ho,hf⟩:=h;have hM:=ho.isMap;have hK:∀y:Int,WideAt.IsKeyLit (.int .i64 y):=fun _=>trivial;obtain⟨w',hr,ho',ht⟩:=ho.store (ps:=[]) (d:=.lit (.int .i64 (c:Int))) yC underlying116 hn (qc h1 h2) (plainElem_int underlying3 (wfI oM oM));refine⟨w',hr,⟨_,ho',fun s=>?_⟩,yD ht,yw ht⟩;by_cases hs:s=x
 .subst hs;simp only[upd1];exact⟨by rw[has_put_same hM (hK _)];simp,fun c' hc' z=>by simp at hc';subst hc';exact atKey_put_same hM (hK _) _ _⟩
 .have hne:Lit.int .i64 s≠Lit.int .i64 x:=fun e=>hs (by injection e);simp only[upd1,if_neg hs,has_put_other hne];exact⟨(hf s).1,fun c hc z=>by rw[atKey_put_other hne];exact(hf s).2 c hc z⟩
def SetAt(w:World)(mb N:Nat)(A:Int->Bool):Prop:=
 ∃D:DataW Unit,w.ownsMap prog 3 unitElem mb N D/\∀s:Int,Maps.has D (.int .i64 s)=A s
theorem SetAt.lt{w:World}{mb N:Nat}{A:Int->Bool}(h:SetAt w mb N A):mb<w.heap.size:=by obtain⟨D,h,_⟩:=h;exact h.lt
theorem SetAt.keep{w w':World}{mb N:Nat}{A:Int->Bool}(h:SetAt w mb N A){S:Nat->Prop}(hu:Upd S w w')(hs:¬S mb):SetAt w' mb N A:=by
 obtain⟨D,⟨es,clock,hb,r⟩,hf⟩:=h;exact⟨D,⟨es,clock,(hu.block _ (zf hb) hs).trans hb,r⟩,hf⟩
theorem SetAt.mono{w:World}{mb N N':Nat}{A:Int->Bool}(h:SetAt w mb N A)(hn:N<=N'):SetAt w mb N' A:=by obtain⟨D,h,hf⟩:=h;exact⟨D,h.mono hn,hf⟩
theorem SetAt.made(w:World):SetAt (w.alloc (.map #[] 0)) w.heap.size 0 (fun _=>false):=
 ⟨.map [],World.ownsMap_made w _ _ _,fun _s=>rfl⟩
def updB(A:Int->Bool)(x:Int)(v:Bool):Int->Bool:=fun s=>if s=x then v else A s
def InR(x:Int):Prop:= -9223372036854775808<=x/\x<9223372036854775808
theorem zcj(w:World):(zeroValue 370).run prog w=.ok (.agg #[]) w:=by
 exact Tryz.zeroValue370 w
theorem SetAt.look{w:World}{mb N:Nat}{A:Int->Bool}(h:SetAt w mb N A){x:Int}(hx:InR x):
  (Instr.lookup 331 (.map (some mb)) (.int .i64 x) true).run prog w=.ok (.tuple #[.agg #[],.bool (A x)]) w:=by
 obtain⟨D,ho,hf⟩:=h;obtain⟨v,ps,hr,hv⟩:=ho.look_ok yC underlying331 (zcj w) unitElem_mk (qc hx.1 hx.2);obtain⟨rfl,_⟩:=unitElem_inv hv;rw[hr,hf x]
theorem SetAt.drop{w:World}{mb N:Nat}{A:Int->Bool}(h:SetAt w mb N A){x:Int}(hx:InR x)(ty:TypeId):
  ∃w',(Builtin.delete_ #[331,3] ty #[.map (some mb),.int .i64 x]).run prog w=.ok (.tuple #[]) w'/\SetAt w' mb N (updB A x false)/\Upd (fun j=>j=mb) w w'/\w'.heap.size=w.heap.size:=by
 obtain⟨D,ho,hf⟩:=h;obtain⟨w',hr,ho',ht⟩:=ho.drop yC underlying331 (qc hx.1 hx.2) ty;refine⟨w',hr,⟨_,ho',fun s=>?_⟩,yD ht,yw ht⟩;by_cases hs:s=x
 .subst hs;simp[updB,has_del_same]
 .have hne:Lit.int .i64 s≠Lit.int .i64 x:=fun e=>hs (by injection e);simp only[updB,if_neg hs,has_del_other hne];exact hf s
theorem SetAt.store{w:World}{mb N:Nat}{A:Int->Bool}(h:SetAt w mb N A){x:Int}(hx:InR x)(hn:N<maxLen):
  ∃w',(Instr.mapUpdate 331 (.map (some mb)) (.int .i64 x) (.agg #[])).run prog w=.ok () w'/\SetAt w' mb (N+1) (updB A x true)/\Upd (fun j=>j=mb) w w'/\w'.heap.size=w.heap.size:=by
 obtain⟨D,ho,hf⟩:=h;have hM:=ho.isMap;have hK:∀y:Int,WideAt.IsKeyLit (.int .i64 y):=fun _=>trivial;obtain⟨w',hr,ho',ht⟩:=ho.store (ps:=[]) (d:=.agg []) yC underlying331 hn (qc hx.1 hx.2) unitElem_mk;refine⟨w',hr,⟨_,ho',fun s=>?_⟩,yD ht,yw ht⟩;by_cases hs:s=x
 .subst hs;simp only[updB,if_true];rw[has_put_same hM (hK _)]
 .have hne:Lit.int .i64 s≠Lit.int .i64 x:=fun e=>hs (by injection e);simp only[updB,if_neg hs,has_put_other hne];exact hf s
theorem yV{w:World}{mb N:Nat}{A:Int->Bool}(h:SetAt w mb N A):
  Calls prog 235 #[.map (some mb)] w fun e w'=>e=.returned (.map (some w.heap.size))/\SetAt w' w.heap.size N A/\Below w.heap.size w w':=by
 obtain⟨D,⟨es,clock,hb,hF,hs,hD⟩,hf⟩:=h;have hq:=fun w=>run_eql_map_nil_sl (P:=prog) w 331 _ _ (some mb) underlying331;have hend:SetAt (w.alloc (.map es clock)) w.heap.size N A:=⟨D,⟨es,clock,(MapKept.heap_alloc w _).1,hF,hs,hD⟩,hf⟩
 have HE:=qqh hend;clear hend hf hD hs hF;go_enter func235,ntmps235
 go_wp2
 rw[run_callFunc_extern func301 kR kR kR (e:=Extern.MapsClone.clone) kR,run_maps_clone_sl w 331 hb];simp only[Result.andThen];rw[Oper.upon_value];go_wp2
 rw[run_typeAssert_map_sl _ 331 _ _ _ _ underlying331];simp only[Result.andThen];rw[Oper.upon_value];go_wp2
 go_ret
 exact⟨rfl,HE.o,(qxl _ _).alloc (qXv _) _⟩
theorem uy{w:World}{mb N:Nat}{A:Int->Bool}(h:SetAt w mb N A)(k:Int)(hk:InR k):
  Calls prog 236 #[.map (some mb),.int .i64 k] w fun e w'=>e=.returned (.bool (A k))/\Below w.heap.size w w':=by
 have hmf:=qqf;have hl:=(SetAt.keep h ((uur (fun _=>False) w).alloc (.cells #[.bool false] 4)) id).look hk;clear h
 go_enter_defers func236,ntmps236
 go_wp2
 refine leaves_cons (f:=302) (args:= #[.pointer (some ⟨w.heap.size,0,none⟩)]) oe jM ?_;refine(sx _ _).mono ?_;rintro e u' w'' ⟨rfl,rfl,rfl⟩;simp[Leaves,settle,results,results236,go_sem];exact(qxl _ _).alloc (qXv _) _
end Go.Proofs.YtfhfbpmlnjdfoaaGreatDoor
namespace Go.Proofs.YtfhfbpmlnjdfoaaGreatDoor
open Go Go.RowKit Go.Maps Go.WideElems Tryz
theorem Xa:∀(n:Nat) (l:List Int),l.Nodup->(∀x∈l,-1<=x/\x<(n:Int))->l.length<=n+1:=by
 intro n
 induction n with
 |zero=>
  intro l hd hr
  match l,hd,hr with
  |[],_,_=>simp
  |[_],_,_=>simp
  |a::b::l,hd,hr=>
   have h1:=hr a oe;have h2:=hr b oe;have:a=b:=oM;simp[this]at hd
 |succ n ih=>
  intro l hd hr;have h1:=ih (l.erase (n:Int)) (hd.erase _) (fun x hx=>by
   have h2:=hr x (qzw hx);have h3:x≠(n:Int):=fun e=>by subst e;exact(List.Nodup.not_mem_erase hd) hx
   omega)
  have h4:l.length<=(l.erase (n:Int)).length+1:=by
   rw[List.length_erase];split<;>omega
  omega
theorem WD{R:Value->Option (DataW Unit×List MemPlace)}{w:World}{mb N:Nat}{D:DataW Unit}(h:w.ownsMap prog 3 R mb N D)(n:Nat)(hr:∀s:Int,Maps.has D (.int .i64 s)=true->-1<=s/\s<(n:Int)):
  w.ownsMap prog 3 R mb (n+1) D:=by
 obtain⟨es,clock,hb,F,hs,rfl⟩:=h;refine⟨es,clock,hb,F,?_,rfl⟩;have hk:∀x∈es.toList,∃c:Int,x.key=.int .i64 c/\Maps.has (DataW.map ((es.toList.map (rg prog 3 R)).foldr DataW.insert [])) (.int .i64 c)=true:=by
  intro x hx;obtain⟨y,hy⟩:=F.reads x hx;obtain⟨c,h1,h2⟩:=Maps.keyOf_int_inv underlying3 (rd_key hy);refine⟨c,h1,?_⟩;have h3:(rg prog 3 R x).1=.int .i64 c:=by rw[rg_of hy];exact h2.1
  exact List.any_eq_true.2 ⟨rg prog 3 R x,mem_sorted.2 (qzv.2 ⟨x,hx,rfl⟩),by rw[h3];exact WideAt.sameKey_self trivial⟩
 let g:MapEntry->Int:=fun x=>match x.key with| .int _ c=>c|_=>0
 have hg:∀x∈es.toList,x.key=.int .i64 (g x):=by
  intro x hx;obtain⟨c,h1,-⟩:=hk x hx;simp only[g,h1]
 have hnd:(es.toList.map g).Nodup:=by
  rw[List.Nodup,qXf];have:=((MapKept.stamped_iff es clock).1 F.stamped).2.2;refine List.Pairwise.imp_of_mem (fun{a b} ha hb' hne e=>hne ?_) this;rw[hg a ha,hg b hb',e]
 have:=Xa n _ hnd (fun s hs=>by
  obtain⟨x,hx,rfl⟩:=qzv.1 hs;obtain⟨c,h1,h2⟩:=hk x hx;have h3:g x=c:=by have:=hg x hx;rw[h1]at this;injection this with _ h;exact h.symm
  rw[h3];exact hr c h2)
 simpa using this
theorem SetAt.tight{w:World}{mb N:Nat}{A:Int->Bool}(h:SetAt w mb N A)(n:Nat)(hr:∀s:Int,A s=true->-1<=s/\s<(n:Int)):SetAt w mb (n+1) A:=by
 obtain⟨D,ho,hf⟩:=h;exact⟨D,WD ho n (fun s hs=>hr s (by rw[<-hf];exact hs)),hf⟩
theorem SetAt.clear{w:World}{mb N:Nat}{A:Int->Bool}(h:SetAt w mb N A):
  ∃w',(∀ty,(Builtin.clear_ #[331] ty #[.map (some mb)]).run prog w=.ok (.tuple #[]) w')/\SetAt w' mb N (fun _=>false)/\Upd (fun j=>j=mb) w w'/\w'.heap.size=w.heap.size:=by
 obtain⟨D,⟨es,clock,hb,F,hs,rfl⟩,hf⟩:=h;refine⟨ChangeMaps.setBlock w mb (.map #[] clock),?_,⟨.map [],⟨#[],clock,(MapKept.heap_set hb).1,⟨oe,MapKept.stamped_empty _,oe⟩,oe,rfl⟩,fun s=>rfl⟩,?_,by simp[ChangeMaps.setBlock]⟩
 .intro ty;simp[Builtin.clear_,run_underlying underlying331,MapKept.run_getObj_map hb,MapKept.run_setObj_map _ hb,Result.andThen,ChangeMaps.setBlock]
 .exact ⟨rfl,rfl,rfl,by simp[ChangeMaps.setBlock],fun k _ hk=>(MapKept.heap_set hb).2 k hk⟩
end Go.Proofs.YtfhfbpmlnjdfoaaGreatDoor
namespace Go.Proofs.YtfhfbpmlnjdfoaaGreatDoor
open Go Go.RowKit Tryz
abbrev LgC(M:List (Nat×(Int->Bool))):List Value:=M.map fun p=> .map (some p.1)
structure LgAt(w:World)(b:Nat)(v:Value)(blocks:Nat)(M:List (Nat×(Int->Bool))):Prop where
 str:w.heap[b]?=some (.cells #[.int .i64 blocks,v] 330 (0,0))
 sl:Sl w 331 1 v M.length (LgC M)
 sets:∀p∈M,SetAt w p.1 4097 p.2
 nd:(M.map (·.1)).Nodup
 mb:∀p∈M,p.1≠b/\v.ownBlock≠some p.1
 vb:v.ownBlock≠some b
 len:M.length<=1024
 bl:1<=blocks/\blocks<=4096
 rg:∀p∈M,∀s:Int,p.2 s=true->-1<=s/\s<(blocks:Int)
def lgS(b:Nat)(v:Value)(M:List (Nat×(Int->Bool))):Nat->Prop:=fun j=>j=b\/v.ownBlock=some j\/j∈M.map (·.1)
section
variable{w w':World}{b blocks:Nat}{v:Value}{M:List (Nat×(Int->Bool))}
theorem LgAt.keep(h:LgAt w b v blocks M){S:Nat->Prop}(hu:Upd S w w')(hs:∀j,lgS b v M j->¬S j):LgAt w' b v blocks M:=
 {h with
  str:=(hu.block _ (zf h.str) (hs b (.inl rfl))).trans h.str
  sl:=h.sl.keep hu (fun g hg=>hs g (.inr (.inl hg)))
  sets:=fun p hp=>(h.sets p hp).keep hu (hs p.1 (.inr (.inr (qzv.2 ⟨p,hp,rfl⟩))))}
theorem LgAt.new(h:LgAt w b v blocks M)(hu:Upd (fun _=>False) w w'):LgAt w' b v blocks M:=h.keep hu (fun _ _ h=>h)
theorem LgAt.slt(h:LgAt w b v blocks M):∀j,lgS b v M j->j<w.heap.size:=by
 rintro j (rfl|hj|hj)
 .exact zf h.str
 .exact h.sl.lt hj
 .obtain ⟨p,hp,rfl⟩:=qzv.1 hj;exact(h.sets p hp).lt
theorem LgAt.c(h:LgAt w b v blocks M):w.cell? ⟨b,0,none⟩=some (.int .i64 blocks)/\w.cell? ⟨b,1,none⟩=some v:=by
 refine⟨?_,?_⟩<;>rw[za h.str]<;>rfl
theorem LgAt.at(h:LgAt w b v blocks M){k:Nat}(hk:k<M.length):∃g off cap,v=.slice (some ⟨g,off,none⟩) M.length cap/\w.cell? ⟨g,off+k,none⟩=some (.map (some M[k].1)):=by
 obtain⟨g,off,cap,cur,rfl,hg,hs,hc⟩:=h.sl.at oM;refine⟨g,off,cap,rfl,?_⟩;rw[za hg];exact hc k _ (by simp[LgC,hk])
theorem qS{M:List (Nat×(Int->Bool))}{k:Nat}(hk:k<M.length)(A:Int->Bool):(M.set k (M[k].1,A)).map (·.1)=M.map (·.1):=by
 apply qye oe;intro i h1 h2;simp only[qyy,qzb];split
 .rename_i e;subst e;rfl
 .rfl
theorem Jy{M:List (Nat×(Int->Bool))}{k:Nat}(hk:k<M.length)(A:Int->Bool):LgC (M.set k (M[k].1,A))=LgC M:=by
 have h:∀M:List (Nat×(Int->Bool)),LgC M=(M.map (·.1)).map fun b=>Value.map (some b):=fun M=>by simp[LgC]
 rw[h,h,qS hk]
theorem LgAt.turn(h:LgAt w b v blocks M){k:Nat}(hk:k<M.length)(hu:Upd (fun j=>j=M[k].1) w w'){A:Int->Bool}(hs:SetAt w' M[k].1 4097 A)(hr:∀s:Int,A s=true->-1<=s/\s<(blocks:Int)):
  LgAt w' b v blocks (M.set k (M[k].1,A)):=by
 have hmk:=h.mb M[k] (qyz hk);exact{h with
  str:=(hu.block _ (zf h.str) (fun e=>hmk.1 e.symm)).trans h.str
  sl:=by rw[Jy hk,qzj];exact h.sl.keep hu (fun g hg e=>hmk.2 (by rw[hg,e]))
  sets:=fun p hp=>by
   obtain⟨i,hi,rfl⟩:=qza hp;simp only[qzj]at hi;rw[qzb];split
   .exact hs
   .rename_i hne
    refine(h.sets _ (qyz hi)).keep hu (fun e=>hne ?_);have:=(List.getElem_inj (i:=i) (j:=k) (h₀:=by simpa using hi) (h₁:=by simpa using hk) h.nd).1 (by simpa using e);exact this.symm
  nd:=by rw[qS hk];exact h.nd
  mb:=fun p hp=>by
   have:p.1∈(M.set k (M[k].1,A)).map (·.1):=qzv.2 ⟨p,hp,rfl⟩;rw[qS hk]at this;obtain⟨q,hq,hqe⟩:=qzv.1 this;rw[<-hqe];exact h.mb q hq
  len:=by rw[qzj];exact h.len
  rg:=fun p hp s hps=>by
   obtain⟨i,hi,rfl⟩:=qza hp;simp only[qzj]at hi;rw[qzb]at hps;split at hps
   .exact hr s hps
   .exact h.rg _ (qyz hi) s hps}
end
def Lg(S:Nat->Prop)(w:World)(b blocks:Nat)(G:List (Int->Bool)):Prop:=∃v M,LgAt w b v blocks M/\M.map (·.2)=G/\∀j,lgS b v M j->S j
theorem Lg.kU(b blocks:Nat)(G:List (Int->Bool)):Thing (fun S w=>Lg S w b blocks G)where
 keep:=fun h hu hs=>by
  obtain⟨v,M,h,hG,hS⟩:=h;exact⟨v,M,h.keep hu (fun j hj=>hs j (hS j hj)),hG,hS⟩
 out:=fun h hs=>by
  obtain⟨v,M,h,hG,hS⟩:=h;exact⟨v,M,h,hG,fun j hj=>hs j (h.slt j hj) (hS j hj)⟩
theorem qj{w:World}{b blocks:Nat}{v:Value}{M:List (Nat×(Int->Bool))}(h:LgAt w b v blocks M)(k:Nat)(hk:k<M.length):
  Calls prog 271 #[.pointer (some ⟨b,0,none⟩),.int .i64 (k:Int)] w fun e w'=>e=.returned (.int .i64 0)/\w=w':=by
 obtain⟨-,g1⟩:=h.c;obtain⟨g,off,cap,rfl,-⟩:=h.at hk;have hl:=h.len;have q1:decide ((k:Int)<0)=false:=oe;have q2:decide ((k:Int)>=(M.length:Int))=false:=by simp;omega
 have q3:decide ((M.length:Int)<=(k:Int))=false:=by simp;omega
 have q4:decide (M.length<=k)=false:=by simp;omega
 clear h;go_enter func271,ntmps271
 go_wp2
 go_ret
 exact⟨rfl,rfl⟩
theorem zck{w:World}{mb N:Nat}{A:Int->Bool}(h:SetAt w mb N A):
  Calls prog 272 #[.map (some mb)] w fun e w'=>e=.returned (.bool (A (-1)))/\Below w.heap.size w w':=by
 have hl:=h.look (x:= -1) (by unfold InR;omega);clear h;go_enter func272,ntmps272
 go_wp2
 go_ret
 exact⟨rfl,(qxl _ _).alloc (qXv _) _⟩
def putA(A:Int->Bool)(x:Int):Int->Bool:=if x≠-1/\A (-1)=true then A else updB (if x= -1 then fun _=>false else A) x true
theorem Jz{A:Int->Bool}{x:Int}{n:Nat}(hA:∀s:Int,A s=true->-1<=s/\s<(n:Int))(hx:x= -1\/0<=x/\x<(n:Int))(hn:1<=n):∀s:Int,putA A x s=true->-1<=s/\s<(n:Int):=by
 intro s hs;unfold putA at hs;split at hs
 .exact hA s hs
 .unfold updB at hs;split at hs
  .omega
  .split at hs
   .simp at hs
   .exact hA s hs
def PutL(w:World)(b blocks:Nat)(v:Value)(M:List (Nat×(Int->Bool)))(k:Nat)(hk:k<M.length)(A:Int->Bool)(e:Ending)(w':World):Prop:=
 e=.returned (.int .i64 0)/\LgAt w' b v blocks (M.set k (M[k].1,A))/\Upd (fun j=>j=M[k].1) w w'
theorem JA{w:World}{b blocks:Nat}{v:Value}{M:List (Nat×(Int->Bool))}(h:LgAt w b v blocks M)(k:Nat)(hk:k<M.length)(x:Int)(hx:x= -1\/(0<=x/\x<(blocks:Int))):
  Calls prog 202 #[.pointer (some ⟨b,0,none⟩),.int .i64 (k:Int),.int .i64 x] w (PutL w b blocks v M k hk (putA M[k].2 x)):=by
 have hmap:LgAt w b v blocks (M.set k (M[k].1,M[k].2)):=by
  have:M.set k (M[k].1,M[k].2)=M:=by apply qye oe;intro i h1 h2;rw[qzb];split;(rename_i e;subst e;rfl);rfl
  rw[this];exact h
 have hset:=h.sets M[k] (qyz hk);have hrg:=h.rg M[k] (qyz hk);have hbl:=h.bl;have hl:=h.len;obtain⟨g0,g1⟩:=h.c;obtain⟨g,off,cap,rfl,gk⟩:=h.at hk;have b1:(0:Int)<=(k:Int):=oM;have b2:(k:Int)<(M.length:Int):=oM;have hrg2:=Jz hrg hx hbl.1;have HP:=Y5 hmap hset hrg h hrg2;clear hmap hset hrg h hrg2;by_cases h1:x= -1
 .have e1:putA M[k].2 x=updB (fun _=>false) x true:=by unfold putA;rw[if_neg (fun h=>h.1 h1),if_pos h1]
  rw[e1]at HP⊢;subst h1;clear e1 hx;obtain⟨w2,hr2,hs2,hu2,hz2⟩:=(HP.o.2.1).clear;obtain⟨w3,hr3,hs3,hu3,hz3⟩:=hs2.store (x:= -1) (by unfold InR;omega) og;have HE:Hid (PutL w b blocks (.slice (some ⟨g,off,none⟩) M.length cap) M k hk (updB (fun _=>false) (-1) true) (.returned (.int .i64 0)) w3):=
   ⟨rfl,HP.o.2.2.2.1.turn hk (hu2.trans hu3) ((hs3.tight blocks HP.o.2.2.2.2).mono oM) HP.o.2.2.2.2,hu2.trans hu3⟩
  clear hs2 hu2 hz2 hs3 hu3 hz3;go_enter func202,ntmps202
  go_wp2_with (first
   |(go_at_call 271;refine(qj HP.o.2.2.2.1 k hk).mono ?_;rintro e w' ⟨rfl,rfl⟩)
   |fail)
  go_ret
  exact HE.o
 .have hx':0<=x/\x<(blocks:Int):=hx.resolve_left h1;obtain⟨c1,c2⟩:=hx';have q1:(x != -1)=true:=by rw[bne_iff_ne];exact h1
  have q2:decide (x<0)=false:=by simp;omega
  have q3:decide (x>=(blocks:Int))=false:=by simp;omega
  have q4:decide ((blocks:Int)<=x)=false:=by simp;omega
  have q5:(x== -1)=false:=by rw[qYv];exact h1
  by_cases h2:M[k].2 (-1)=true
  .have e1:putA M[k].2 x=M[k].2:=by unfold putA;rw[if_pos ⟨h1,h2⟩]
   rw[e1]at HP⊢;have hany:Calls prog 272 #[.map (some M[k].1)] w fun e w'=>e=.returned (.bool true)/\Below w.heap.size w w':=(zck HP.o.2.1).mono (fun e w' h=>⟨by rw[h.1,h2],h.2⟩);clear e1 hx h1 h2;go_enter func202,ntmps202
   go_wp2_with (first
    |(go_at_call 271;refine(qj HP.o.2.2.2.1 k hk).mono ?_;rintro e w' ⟨rfl,rfl⟩)
    |(go_at_call 272;refine hany.mono ?_;rintro e w1 ⟨rfl,hb1⟩)
    |fail)
   go_ret
   exact⟨rfl,HP.o.1.new (uuo hb1),uuo hb1⟩
  .have e1:putA M[k].2 x=updB M[k].2 x true:=by unfold putA;rw[if_neg (fun h=>h2 h.2),if_neg h1]
   rw[e1]at HP⊢;have h2':M[k].2 (-1)=false:=by simpa using h2
   have hany:Calls prog 272 #[.map (some M[k].1)] w fun e w'=>e=.returned (.bool false)/\Below w.heap.size w w':=(zck HP.o.2.1).mono (fun e w' h=>⟨by rw[h.1,h2'],h.2⟩);clear e1 hx h1 h2 h2';go_enter func202,ntmps202
   go_wp2_with (first
    |(go_at_call 271;refine(qj HP.o.2.2.2.1 k hk).mono ?_;rintro e w' ⟨rfl,rfl⟩)
    |fail)
   refine hany.mono ?_;rintro e w1 ⟨rfl,hb1⟩;have hu1:=qqb hb1;have h1:=HP.o.2.2.2.1.new hu1;obtain⟨w3,hr3,hs3,hu3,hz3⟩:=(HP.o.2.1.keep hu1 id).store (x:=x) (by unfold InR;omega) og;have HE:Hid (PutL w b blocks (.slice (some ⟨g,off,none⟩) M.length cap) M k hk (updB M[k].2 x true) (.returned (.int .i64 0)) w3):=
    ⟨rfl,h1.turn hk hu3 ((hs3.tight blocks HP.o.2.2.2.2).mono oM) HP.o.2.2.2.2,(hu1.mono fE).trans hu3⟩
   clear hs3 hu3 hz3 h1 hu1 hb1;go_wp2
   go_ret
   exact HE.o
def sy(G:List (Int->Bool))(k:Nat)(x:Int):List (Int->Bool):=G.modify k (fun A=>putA A x)
def scrubG(G:List (Int->Bool))(k:Nat):List (Int->Bool):=G.modify k (fun _ _=>false)
theorem sX{M:List (Nat×(Int->Bool))}{k:Nat}(hk:k<M.length)(f:(Int->Bool)->Int->Bool):(M.set k (M[k].1,f M[k].2)).map (·.2)=(M.map (·.2)).modify k f:=by
 apply qye oe;intro i h1 h2;simp only[qyy,qzb,List.getElem_modify];split
 .rename_i e;subst e;rfl
 .rfl
theorem zdr{S:Nat->Prop}{w:World}{b blocks:Nat}{G:List (Int->Bool)}(h:Lg S w b blocks G)(k:Nat)(hk:k<G.length)(x:Int)(hx:x= -1\/(0<=x/\x<(blocks:Int))):
  Calls prog 202 #[.pointer (some ⟨b,0,none⟩),.int .i64 (k:Int),.int .i64 x] w fun e w'=>e=.returned (.int .i64 0)/\Lg S w' b blocks (sy G k x)/\Upd S w w':=by
 obtain⟨v,M,h,rfl,hS⟩:=h;have hk':k<M.length:=by simpa using hk
 refine(JA h k hk' x hx).mono ?_;rintro e w' ⟨rfl,h2,hu⟩;refine⟨rfl,⟨v,_,h2,sX hk' (fun A=>putA A x),fun j hj=>hS j ?_⟩,hu.mono (fun j _ hj=>hS j (.inr (.inr oX)))⟩;rcases hj with hj|hj|hj
 .exact .inl hj
 .exact .inr (.inl hj)
 .rw [qS hk']at hj;exact .inr (.inr hj)
theorem AH{S:Nat->Prop}{w:World}{b blocks:Nat}{G:List (Int->Bool)}(h:Lg S w b blocks G)(k:Nat)(hk:k<G.length):
  Calls prog 204 #[.pointer (some ⟨b,0,none⟩),.int .i64 (k:Int)] w fun e w'=>e=.returned (.int .i64 0)/\Lg S w' b blocks (scrubG G k)/\Upd S w w':=by
 obtain⟨v,M,h,rfl,hS⟩:=h;have hk':k<M.length:=by simpa using hk
 clear hk;have hset:=h.sets M[k] (qyz hk');obtain⟨w2,hr2,hs2,hu2,hz2⟩:=hset.clear;have h2:=h.turn hk' hu2 hs2 (fun s hs=>by simp at hs);have HE:Hid (Lg S w2 b blocks (scrubG (M.map (·.2)) k)/\Upd S w w2):=by
  refine⟨⟨v,_,h2,sX hk' (fun _ _=>false),fun j hj=>hS j ?_⟩,hu2.mono (fun j _ hj=>hS j (.inr (.inr oX)))⟩;rcases hj with hj|hj|hj
  .exact .inl hj
  .exact .inr (.inl hj)
  .rw [qS hk']at hj;exact .inr (.inr hj)
 have hl:=h.len;obtain⟨-,g1⟩:=h.c;obtain⟨g,off,cap,rfl,gk⟩:=h.at hk';have b1:(0:Int)<=(k:Int):=oM;have b2:(k:Int)<(M.length:Int):=oM;have HP:=qqh h;clear h hset hs2 hu2 hz2 h2 hS;go_enter func204,ntmps204
 go_wp2_with (first
  |(go_at_call 271;refine(qj HP.o k hk').mono ?_;rintro e w' ⟨rfl,rfl⟩)
  |fail)
 go_ret
 exact⟨rfl,HE.o⟩
end Go.Proofs.YtfhfbpmlnjdfoaaGreatDoor
