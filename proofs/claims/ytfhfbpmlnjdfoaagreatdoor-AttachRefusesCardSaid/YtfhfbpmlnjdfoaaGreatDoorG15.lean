/- Logs whose sec -/
import Derived.Test.YtfhfbpmlnjdfoaaGreatDoorG14
set_option maxRecDepth 100000
set_option maxHeartbeats 4000000
namespace Go.Proofs.YtfhfbpmlnjdfoaaGreatDoor
open Go Go.RowKit Tryz
theorem wX{P:Prop}(h:P:=by
 replace hz:=qqh hz;obtain⟨cx,hcx⟩:∃cx:Int,cx=if curB F O (base+an)=zB then 14 else 12:=⟨_,rfl⟩
 rw[<-hcx];have HCX:=qqh hcx;clear hcx;obtain⟨Z,hZ⟩:∃Z:List Value,Z=zL:=⟨_,rfl⟩
 have hal:=WM;rw[<-hZ];simp only[<-hZ]at hal;have HZZ:Hid (Z=zL/\Z.length=n1y/\Z.toArray.size=n1y/\(prog.info? n2y).map (·.size)=some Z.toArray.size/\(Z.toArray).all (·.oneCell')=true/\(prog.info? n2y).map (·.size)=some Z.length/\∀u∈Z,u.oneCell'=true):=⟨hZ,by rw[hZ];rfl,by rw[hZ];rfl,by rw[hZ];exact Ab,by rw[hZ];exact qZ,by rw[hZ];exact Ab,by rw[hZ];exact wE⟩
 clear hZ;have hgA:((w.alloc (.cells Z.toArray n2y)).alloc (.cells Z.toArray n2y)).heap[w.heap.size]?=some (.cells Z.toArray n2y):=by rw[qxk _ _ _ oe];exact zc w _ rfl
 have hgB:((w.alloc (.cells Z.toArray n2y)).alloc (.cells Z.toArray n2y)).heap[w.heap.size+1]?=some (.cells Z.toArray n2y):=zc _ _ oe;have hu1:Upd (fun _=>False) w ((w.alloc (.cells Z.toArray n2y)).alloc (.cells Z.toArray n2y)):=((uur _ w).alloc _).alloc _;have hs1:((w.alloc (.cells Z.toArray n2y)).alloc (.cells Z.toArray n2y)).heap.size=w.heap.size+2:=oe;have hl1:=hl.keep hu1 id;have hN1:=hN.keep hu1 id;have hfl:=hd.good.fl;obtain⟨c0,c1,c2,-,c4,-⟩:=hl1.c;have hd1:Dv (fun j=>S j/\j≠w.heap.size/\j≠w.heap.size+1) ((w.alloc (.cells Z.toArray n2y)).alloc (.cells Z.toArray n2y)) b F O P:=
  (((hd.but (qXv _)).but (q:=w.heap.size+1) oM).keep hu1 (fun _ _ h=>h)).wide (fun j h=>⟨h.1.1,h.1.2,h.2⟩)
 have hn1:∀j,w.heap.size+2<=j->S j/\j≠w.heap.size/\j≠w.heap.size+1:=fun j hj=>⟨hn j oM,oM,oM⟩
 have HAS:Hid (S w.heap.size):=hn _ (qXv _);have hllt:=hl.lt;have HL:=Y8 hl1 hN1 hu1 hd1 hn1 hSl hSN hs1;clear hl hd hn hSl hN hSN hl1 hN1 hu1 hd1 hn1;go_enter q4y,q5y
 .have z1:decide ((an:Int)<0)=false:=oe;have z2:decide ((n:Int)<=(an:Int))=false:=by simp;omega
  go_wp2_with (first
   |(refine zY rfl _ rfl _ hal ?_)
   |fail)
  generalize (w.alloc (.cells Z.toArray n2y)).alloc (.cells Z.toArray n2y)=w1 at*;obtain⟨T,hT⟩:∃T:Nat->Prop,T=fun j=>S j/\j≠w.heap.size/\j≠w.heap.size+1:=⟨_,rfl⟩
  obtain⟨hl1,hN1,hu1,hd1,hn1,hSl,hSN,-⟩:=HL.o;have hTS:∀j,T j->S j:=fun j h=>by rw[hT]at h;exact h.1
  have hTA:¬T w.heap.size:=fun h=>by rw[hT]at h;exact h.2.1 rfl
  have hTA':∀j,T j->j≠w.heap.size:=fun j h e=>hTA (e▸h);have hTB:¬T (w.heap.size+1):=fun h=>by rw[hT]at h;exact h.2.2 rfl
  have hTl:¬T l:=fun h=>hSl (hTS l h);have hTN:¬T 0:=fun h=>hSN (hTS _ h);rw[<-hT]at hd1;replace hn1:∀j,w1.heap.size<=j->T j:=fun j hj=>by rw[hT];exact hn1 j oM
  have HT:=Y13 hTS hTA hTB hTl hTN hd1 hn1 hu1 hl1 hN1 hgA hgB hTA';have hl1lt:=hl1.lt;clear hT hTS hTA hTB hTl hTN hd1 hn1 hu1 hl1 hN1 hgA hgB hSl hSN hTA' hs1
  go_cut [7,8] (fun s7 s8 wx=>Ri T b F O P (base+an) w1 s7 s8 wx)
  case first=>
   have e1:IntKind.i64.wrap ((base:Int)+(an:Int))=((base+an:Nat):Int):=qxv _ oM;refine qZj (S:=fun W=>W.cell? ⟨l,0,none⟩=some (.pointer (some ⟨b,0,none⟩))/\W.cell? ⟨l,1,none⟩=some (.int .i64 (base:Int))) kR (⟨by rw[qYo];exact c0,by rw[qYo];exact c1⟩) (fun hHeld=>?_);refine Wl.i [0,1,2,3,4,5,6,7,8,9] ?_;iterate 10 refine Wl.t hHeld ?_
   refine Wl.o ?_;refine qZe (rs:=[10,14]) kR oe ?_;refine qxb rfl (fun K hK=>?_) (qxb rfl (fun K hK=>?_) qxc)
   .go_simp
    refine(vT (HT.o.2.2.2.2.2.1.keep ((uur (fun _=>False) w1).drew) (fun _ _ h=>h)) (HT.o.2.2.2.2.2.2.1) (base+an) oM).mono ?_;rintro e w7 ⟨z2,cd2,rfl,hz2,hcd2,hz2l,hd7,hu7⟩;have HZ2:=Y2 hz2 hcd2;clear hz2 hcd2;refine hK.o _ _ (⟨hu7.j4 hHeld.1 HT.o.2.2.2.1,hu7.j4 hHeld.2 HT.o.2.2.2.1⟩) (fun hHeld2=>?_);clear hK K;refine Wl.i [11,12,13] ?_;iterate 3 refine Wl.t hHeld2 ?_
    refine Wl.o ?_;refine Wl.r 14 (fun K hK=>?_);go_simp
    show K _ (w7.alloc (.cells (bkC zB).toArray 54));have hg8:=zc w7 (.cells (bkC zB).toArray 54) rfl;have hu8:Upd (fun _=>False) w7 (w7.alloc (.cells (bkC zB).toArray 54)):=(uur _ _).alloc _;have hw67:w1.heap.size<=w7.heap.size:=hu7.size;have hd8:=(hd7.but (qXv _)).keep hu8 (fun _ _ h=>h);have hU8:Upd T w1 (w7.alloc (.cells (bkC zB).toArray 54)):=((uur _ w1).drew.trans hu7).trans (hu8.mono fE);refine hK.o _ _ (⟨hu8.j4 hHeld2.1 id,hu8.j4 hHeld2.2 id⟩) (fun hHeld3=>?_);clear hK K;generalize w7.heap.size=q at*;generalize w7.alloc (.cells (bkC zB).toArray 54)=w8 at*;refine Wl.r 15 (fun K hK=>?_);rw[if_pos oD];refine qZk _ _ _ rfl _ _ (List.toArray _) rfl rfl oV (by rw[zp _ hz2l];exact zP) (qYu (zx _)) ?_;simp only[Act.put,qXi];refine hK.o _ _ (⟨zO hHeld3.1 oM,zO hHeld3.2 oM⟩) (fun hHeld4=>?_);clear hK K;refine Wl.r 16 (fun K hK=>?_);go_simp
    refine hK.o _ _ (hHeld4) (fun _=>?_);clear hK K;refine Wl.d ?_;clear hHeld4 e1;go_wp2_with fail
    go_meet
    case rel=>exact⟨q,z2,cd2,rfl,rfl,wU hg8 zK hz2l,hw67,HZ2.o.1,HZ2.o.2,hz2l,hd8.keep (zq w8 q 0 (bkC z2)) (fun j h e=>h.2 e),hU8.trans ((zq w8 q 0 (bkC z2)).mono (fun j _ e=>e▸HT.o.2.2.2.2.2.2.1 _ hw67))⟩
   .go_simp
    show K _ (w1.drew.alloc (.cells (bkC zB).toArray 54));have hg7:(w1.drew.alloc (.cells (bkC zB).toArray 54)).heap[w1.heap.size]?=some (.cells (bkC zB).toArray 54):=zc w1.drew _ rfl;have hu7a:Upd (fun _=>False) w1 (w1.drew.alloc (.cells (bkC zB).toArray 54)):=((uur _ w1).drew).alloc _;have hd7a:Dv (fun j=>T j/\j≠w1.heap.size) (w1.drew.alloc (.cells (bkC zB).toArray 54)) b F O P:=(HT.o.2.2.2.2.2.1.but (qXv _)).keep hu7a (fun _ _ h=>h);have hs7a:(w1.drew.alloc (.cells (bkC zB).toArray 54)).heap.size=w1.heap.size+1:=oe;refine hK.o _ _ (⟨hu7a.j4 c0 id,hu7a.j4 c1 id⟩) (fun hHeld2=>?_);clear hK K;generalize w1.drew.alloc (.cells (bkC zB).toArray 54)=w7a at*;refine Wl.r 10 (fun K hK=>?_);go_simp
    refine(vT (hd7a) (fun j hj=>⟨HT.o.2.2.2.2.2.2.1 j oM,oM⟩) (base+an) oM).mono ?_;rintro e w7 ⟨z2,cd2,rfl,hz2,hcd2,hz2l,hd7,hu7⟩;have HZ2:=Y2 hz2 hcd2;clear hz2 hcd2;have hg8:=(hu7.block w1.heap.size (zf hg7) (fun h=>h.2 rfl)).trans hg7;refine hK.o _ _ (⟨hu7.j4 hHeld2.1 (fun h=>HT.o.2.2.2.1 h.1),hu7.j4 hHeld2.2 (fun h=>HT.o.2.2.2.1 h.1)⟩) (fun hHeld3=>?_);clear hK K;refine Wl.i [11,12,13] ?_;iterate 3 refine Wl.t hHeld3 ?_
    refine Wl.o ?_;refine Wl.r 15 (fun K hK=>?_);rw[if_pos oD];refine qZk _ _ _ rfl _ _ (List.toArray _) rfl rfl oV (by rw[zp _ hz2l];exact zP) (qYu (zx _)) ?_;simp only[Act.put,qXi];refine hK.o _ _ (⟨zO hHeld3.1 oM,zO hHeld3.2 oM⟩) (fun hHeld4=>?_);clear hK K;refine Wl.r 16 (fun K hK=>?_);go_simp
    refine hK.o _ _ (hHeld4) (fun _=>?_);clear hK K;refine Wl.d ?_;clear hHeld4 e1;go_wp2_with fail
    go_meet
    case rel=>exact⟨w1.heap.size,z2,cd2,rfl,rfl,wU hg8 zK hz2l,qXv _,HZ2.o.1,HZ2.o.2,hz2l,hd7.keep (zq w7 w1.heap.size 0 (bkC z2)) (fun j h e=>h.2 e),((hu7a.mono fE).trans (hu7.mono (fun j _ h=>h.1))).trans ((zq w7 w1.heap.size 0 (bkC z2)).mono (fun j _ e=>e▸HT.o.2.2.2.2.2.2.1 _ (qXv _)))⟩
  case rest=>
   obtain⟨q,v,cd2,rfl,rfl,hgq,hq,hv,hcd2,hvl,hdx,hux⟩:=hcut;have hgA:=(hux.block _ (zf HT.o.2.2.2.2.2.2.2.2.2.2.1) HT.o.2.1).trans HT.o.2.2.2.2.2.2.2.2.2.2.1;have hgB:=(hux.block _ (zf HT.o.2.2.2.2.2.2.2.2.2.2.2.1) HT.o.2.2.1).trans HT.o.2.2.2.2.2.2.2.2.2.2.2.1;have hlx:=HT.o.2.2.2.2.2.2.2.2.1.keep hux HT.o.2.2.2.1;have hNx:=HT.o.2.2.2.2.2.2.2.2.2.1.keep hux HT.o.2.2.2.2.1;have hUx:Upd S w wc:=(HT.o.2.2.2.2.2.2.2.1.mono fE).trans (hux.mono (fun j _ h=>HT.o.1 j h));have hdT:Dv T wc b F O P.tail:=hdx.wide (fun j h=>h.1);have rq:=zh hgq;have c4':=hlx.c.2.2.2.2.1;have HQ:=Y9 hdT hUx hlx hNx hgA hgB hvl hv hcd2;have hqlt:=zf hgq;have hAlt:=zf hgA;have hBlt:=zf hgB;have hllx:=hlx.lt;have rB:=zh hgB;have tA:=zF (n:=n1y) hgA ov;clear hgq hq hv hcd2 hvl hdx hux hlx hNx hUx hdT hgA hgB c0 c1 c2 c4;have e0:cd2=0:=by rw[HQ.o.2.2.2.2.2.2.2.2,if_neg hf]
   have ez:v=curB F O (base+an):=by rw[HQ.o.2.2.2.2.2.2.2.1,if_neg hf]
   subst e0;have hq0:∀W,(Op.equalIn 10000 54 (.agg (bkC v).toArray) (.agg #[.int .u8 0,.int .u8 0,.int .u8 0,.int .u8 0,.int .u8 0,.int .u8 0,.int .u8 0,.int .u8 0,.int .u8 0,.int .u8 0,.int .u8 0,.int .u8 0,.int .u8 0,.int .u8 0,.int .u8 0,.int .u8 0,.int .u8 0,.int .u8 0,.int .u8 0,.int .u8 0,.int .u8 0,.int .u8 0,.int .u8 0,.int .u8 0,.int .u8 0,.int .u8 0,.int .u8 0,.int .u8 0,.int .u8 0,.int .u8 0,.int .u8 0,.int .u8 0,.int .u8 0,.int .u8 0,.int .u8 0,.int .u8 0,.int .u8 0,.int .u8 0,.int .u8 0,.int .u8 0,.int .u8 0,.int .u8 0,.int .u8 0,.int .u8 0,.int .u8 0,.int .u8 0,.int .u8 0,.int .u8 0,.int .u8 0,.int .u8 0,.int .u8 0,.int .u8 0,.int .u8 0,.int .u8 0,.int .u8 0,.int .u8 0,.int .u8 0,.int .u8 0,.int .u8 0,.int .u8 0,.int .u8 0,.int .u8 0,.int .u8 0,.int .u8 0])).run prog W=.ok (v==zB) W:=Vv v zB HQ.o.2.2.2.2.2.2.1 zK;by_cases h0:v=zB
   .have hb0:(v==zB)=true:=by simpa using h0
    have HD:Hid (Dv (fun j=>T j/\j≠w.heap.size) wc b F O P.tail/\Upd S w wc):=⟨(HQ.o.1).wide (fun j h=>⟨h,HT.o.2.2.2.2.2.2.2.2.2.2.2.2 j h⟩),HQ.o.2.1⟩
    obtain rfl:cx=14:=HCX.o.trans (if_pos (ez▸h0));clear h0 ez;go_wp2_with (first
     |(refine qZg rfl _ _ rfl _ _ rfl _ _ rq underlying54 rfl (zw _ HQ.o.2.2.2.2.2.2.1) ?_)
     |(refine qZg rfl _ _ rfl _ _ rfl _ _ rB q6y rfl HZZ.o.2.2.2.2.2.1 ?_)
     |(refine qZi rfl _ _ _ rfl _ _ Z.toArray rfl rfl (by rw[HZZ.o.2.2.1];exact tA) HZZ.o.2.2.2.1 HZZ.o.2.2.2.2.1 ?_)
     |fail)
    refine qYw (zt rfl _ _ w.heap.size 0 Z _ rfl (qYr _ _ _ _ jR) q6y rfl HZZ.o.2.2.2.2.2.1) rfl ?_;exact⟨rfl,HD.o.1.keep (zq _ w.heap.size 0 _) (fun j h e=>h.2 e)|>.wide (fun j h=>HT.o.1 j h.1),HD.o.2.trans ((zq _ w.heap.size 0 _).mono (fun j _ e=>e▸HAS.o))⟩
   .have hb0:(v==zB)=false:=by simpa using h0
    have HS:Hid (sealB v≠v):=by show _≠_;rcases hz.out with h|h;exact absurd (ez.trans h) h0;rw[ez];exact h
    obtain rfl:cx=12:=HCX.o.trans (if_neg (ez▸h0));clear h0 ez;go_wp2_with (first
     |(refine qZg rfl _ _ rfl _ _ rfl _ _ rq underlying54 rfl (zw _ HQ.o.2.2.2.2.2.2.1) ?_)
     |fail)
    clear hq0 rB tA;obtain⟨wd,hwd⟩:∃wd:World,wd=wc:=⟨_,rfl⟩
    go_cut [9,8] (fun s9 s8 wx=>zae n2y wd s9 s8 wx)
    case first=>
     subst hwd;refine qZj (S:=fun W=>W.cell? ⟨l,4,none⟩=some (.func (.func n7y) #[] #[])/\W.rangeAt q 0 (bkC v)) kR (⟨by rw[qYo];exact c4',by rw[qYq];exact rq⟩) (fun hHeld=>?_);refine Wl.i [0,1,2,3] ?_;iterate 4 refine Wl.t hHeld ?_
     refine Wl.o ?_;refine Wl.l 4 (fun w h=>h.2) underlying54 (zw _ HQ.o.2.2.2.2.2.2.1) hHeld ?_;refine qZe (rs:=[5,9]) kR oe ?_;refine qxb rfl (fun K' hK=>?_) (qxb rfl (fun K' hK=>?_) qxc)
     .go_simp
      refine(q8y (bkC v) (zw _ HQ.o.2.2.2.2.2.2.1) n7y #[] (fun _ _=>rfl) (fun rs cd=>cd≠0/\rs.length=n1y/\∀u∈rs,u.oneCell'=true) (fun ys cd h=>h.2) (fun W hW=>(q9y ((HQ.o.2.2.2.1.keep ((uur (fun _=>False) _).drew) id).below hW) v HQ.o.2.2.2.2.2.2.1 HS.o).mono (fun e w' h=>VV ⟨HZZ.o.2.1,HZZ.o.2.2.2.2.2.2⟩ (by rw[HZZ.o.1];exact h)))).mono ?_;rintro e w3 ⟨rs,cd,hR,rfl,hb3⟩;have HR:=qqh hR;clear hR;refine hK.o _ _ (⟨(uuo (S:=fun _=>False) hb3).j4 hHeld.1 id,Below.range hb3 hHeld.2⟩) (fun hHeld2=>?_);clear hK K';refine Wl.i [6,7,8] ?_;iterate 3 refine Wl.t hHeld2 ?_
      refine Wl.o ?_;refine qZe (rs:=[9]) kR oe ?_;refine qxb rfl (fun K' hK=>?_) qxc;go_simp
      show K' _ (w3.alloc (.cells zL.toArray n2y));rw[<-HZZ.o.1];have hg4:=zc w3 (.cells Z.toArray n2y) rfl;have hu4:Upd (fun _=>False) w3 (w3.alloc (.cells Z.toArray n2y)):=(uur _ _).alloc _;have hsz4:wd.heap.size<=w3.heap.size:=hb3.size;have hB4:Below wd.heap.size wd (w3.alloc (.cells Z.toArray n2y)):=(yu hb3).alloc hsz4 _;refine hK.o _ _ (⟨hu4.j4 hHeld2.1 id,hu4.range hHeld2.2 id⟩) (fun hHeld3=>?_);clear hK K';generalize w3.heap.size=p at*;generalize w3.alloc (.cells Z.toArray n2y)=w4 at*;refine qZe (rs:=[10]) kR oe ?_;refine qxb rfl (fun K' hK=>?_) qxc;rw[if_pos oD];refine qZk _ _ _ rfl _ _ (List.toArray _) rfl rfl jJ oW (qYu HR.o.2.2) ?_;simp only[Act.put,qXi];refine hK.o _ _ (⟨zO hHeld3.1 oM,(zq w4 p 0 rs).range hHeld3.2 oM⟩) (fun hHeld4=>?_);clear hK K';refine qZe (rs:=[11]) kR oe ?_;refine qxb rfl (fun K' hK=>?_) qxc;go_simp
      refine hK.o _ _ (hHeld4) (fun _=>?_);clear hK K';refine Wl.d ?_;clear hHeld4;go_wp2_with fail
      go_meet
      case rel=>exact⟨p,rs,cd,rfl,rfl,re hg4 (by rw[HR.o.2.1];exact HZZ.o.2.2.1),oM,zk hB4 (zq w4 p 0 rs) (qXv _) (fun k e=>oM),HR.o.1⟩
     .go_simp
      show K' _ (wd.drew.alloc (.cells zL.toArray n2y));rw[<-HZZ.o.1];have hg2:(wd.drew.alloc (.cells Z.toArray n2y)).heap[wd.heap.size]?=some (.cells Z.toArray n2y):=zc wd.drew _ rfl;have hu2:Upd (fun _=>False) wd.drew (wd.drew.alloc (.cells Z.toArray n2y)):=(uur _ _).alloc _;have hB2:Below wd.heap.size wd (wd.drew.alloc (.cells Z.toArray n2y)):=(zR (qxl _ wd) 1).alloc (qXv _) _;have hN2:=(HQ.o.2.2.2.1.keep ((uur (fun _=>False) _).drew) id).keep hu2 id;refine hK.o _ _ (⟨hu2.j4 hHeld.1 id,hu2.range hHeld.2 id⟩) (fun hHeld2=>?_);clear hK K';generalize wd.drew.alloc (.cells Z.toArray n2y)=w2 at*;refine qZe (rs:=[5]) kR oe ?_;refine qxb rfl (fun K' hK=>?_) qxc;go_simp
      refine(q8y (bkC v) (zw _ HQ.o.2.2.2.2.2.2.1) n7y #[] (fun _ _=>rfl) (fun rs cd=>cd≠0/\rs.length=n1y/\∀u∈rs,u.oneCell'=true) (fun ys cd h=>h.2) (fun W hW=>(q9y (hN2.below hW) v HQ.o.2.2.2.2.2.2.1 HS.o).mono (fun e w' h=>VV ⟨HZZ.o.2.1,HZZ.o.2.2.2.2.2.2⟩ (by rw[HZZ.o.1];exact h)))).mono ?_;rintro e w3 ⟨rs,cd,hR,rfl,hb3⟩;have HR:=qqh hR;clear hR;have hg4:=(hb3.block wd.heap.size (zf hg2)).trans hg2;have hB4:Below wd.heap.size wd w3:=hB2.trans (hb3.mono hB2.size);refine hK.o _ _ (⟨(uuo (S:=fun _=>False) hb3).j4 hHeld2.1 id,Below.range hb3 hHeld2.2⟩) (fun hHeld3=>?_);clear hK K';refine Wl.i [6,7,8] ?_;iterate 3 refine Wl.t hHeld3 ?_
      refine Wl.o ?_;refine qZe (rs:=[10]) kR oe ?_;refine qxb rfl (fun K' hK=>?_) qxc;rw[if_pos oD];refine qZk _ _ _ rfl _ _ (List.toArray _) rfl rfl jJ oW (qYu HR.o.2.2) ?_;simp only[Act.put,qXi];refine hK.o _ _ (⟨zO hHeld3.1 oM,(zq w3 wd.heap.size 0 rs).range hHeld3.2 oM⟩) (fun hHeld4=>?_);clear hK K';refine qZe (rs:=[11]) kR oe ?_;refine qxb rfl (fun K' hK=>?_) qxc;go_simp
      refine hK.o _ _ (hHeld4) (fun _=>?_);clear hK K';refine Wl.d ?_;clear hHeld4;go_wp2_with fail
      go_meet
      case rel=>exact⟨wd.heap.size,rs,cd,rfl,rfl,re hg4 (by rw[HR.o.2.1];exact HZZ.o.2.2.1),qXv _,zk hB4 (zq w3 wd.heap.size 0 rs) (qXv _) (fun k e=>oM),HR.o.1⟩
    case rest=>
     subst hwd;obtain⟨p,rs,cd3,rfl,rfl,hgp,hp,hbx,hno⟩:=hcut;have hbs:=hbx.size;have hgA:=(hbx.block _ hAlt).trans HQ.o.2.2.2.2.1;have hgB:=(hbx.block _ hBlt).trans HQ.o.2.2.2.2.2.1;have hd2:=HQ.o.1.below hbx;have hU2:Upd S w wc:=HQ.o.2.1.trans ((uuo (S:=fun _=>False) hbx).mono fE);have hl2:=HQ.o.2.2.1.below hbx;have rp:=zh hgp;have rB:=zh hgB;have tA:=zF (n:=n1y) hgA ov;have HZ:=Y5 hd2 hU2 hl2 hgA hgB;have hplt:=zf hgp;clear hgp hp hbx hgA hgB hd2 hU2 hl2 rq c4';have hc0:(cd3==0)=false:=by simpa using hno
     have HD:Hid (Dv (fun j=>T j/\j≠w.heap.size) wc b F O P.tail/\Upd S w wc):=⟨HZ.o.1.wide (fun j h=>⟨h,HT.o.2.2.2.2.2.2.2.2.2.2.2.2 j h⟩),HZ.o.2.1⟩
     clear hno;go_wp2_with (first
      |(refine qZg rfl _ _ rfl _ _ rfl _ _ rB q6y rfl HZZ.o.2.2.2.2.2.1 ?_)
      |(refine qZi rfl _ _ _ rfl _ _ Z.toArray rfl rfl (by rw[HZZ.o.2.2.1];exact tA) HZZ.o.2.2.2.1 HZZ.o.2.2.2.2.1 ?_)
      |fail)
     refine qYw (zt rfl _ _ w.heap.size 0 Z _ rfl (qYr _ _ _ _ jR) q6y rfl HZZ.o.2.2.2.2.2.1) rfl ?_;exact⟨rfl,HD.o.1.keep (zq _ w.heap.size 0 _) (fun j h e=>h.2 e)|>.wide (fun j h=>HT.o.1 j h.1),HD.o.2.trans ((zq _ w.heap.size 0 _).mono (fun j _ e=>e▸HAS.o))⟩):P:=h
theorem wY{P:Prop}(h:P:=by
 have hfl:=hd.good.fl;obtain⟨-,-,c2,-⟩:=hl.c;have H:=Y7 hl hd hn hSl hN hSN hz;clear hl hd hn hSl hN hSN hz;go_enter zaf,zag
 go_wp2
 go_step3
 go_wp2
 go_step3
 go_wp2
 go_loopg[4,5,15] n (fun gk s4 s5 s15 wr=>∃i:Nat,i+gk=n/\s15=.int .i64 i/\s5=.int .i64 0/\s4=.slice none 0 0/\Dv S wr b F O []/\Upd S w wr)
 case atStart=>exact⟨0,oM,rfl,rfl,rfl,H.o.2.1,uur _ _⟩
 case round=>
  obtain⟨i,hi,rfl,rfl,rfl,hd,hU⟩:=hrel;obtain⟨hl,-,hn,hSl,hN,hSN,hz⟩:=H.o;by_cases hlt:i<n
  .have HG:=qqh (zah (hl.keep hU hSl) hd (fun j hj=>hn j (qXx hU.size hj)) hSl (hN.keep hU hSN) hSN hbn de hlt ((hz i hlt).imp_right And.right));have HU:=qqh hU;have k1:(i:Int)<(n:Int):=oM;clear hl hd hn hSl hN hSN hz hU;go_wp2_with fail
   refine HG.o.mono ?_;rintro e w9 ⟨rfl,hd9,hU9⟩;have H9:=Y2 hd9 (HU.o.trans hU9);clear hd9 hU9 HG;by_cases h0:curB F O (base+i)=zB
   .rw [if_pos h0];clear h0;generalize hZZ:zL=Z at*;have hsz:Hid ((prog.info? n2y).map (·.size)=some Z.length/\Z.length=n1y/\∀u∈Z,u.oneCell'=true):=by subst hZZ;exact⟨Ab,rfl,wE⟩
    replace hZZ:=qqh hZZ;go_wp2_with (first
     |(refine zl rfl _ _ _ rfl _ _ _ rfl rfl (by rw[hsz.out.2.1];rfl) hsz.out.1 hsz.out.2.2 ?_)
     |fail)
    obtain⟨hd9,hU9⟩:=H9.o;have hua:Upd (fun _=>False) w9 (w9.alloc (.cells Z.toArray n2y)):=(uur _ _).alloc _;have hd10:=hd9.new hua;have hU10:=hU9.trans (hua.mono fE);generalize w9.alloc (.cells Z.toArray n2y)=w10 at*;go_roundg (gk-1)
    case measure=>omega
    case rel=>exact⟨i+1,oM,by go_num,rfl,rfl,hd10,hU10⟩
   .have hbd:bad:=((H.o.2.2.2.2.2.2 i hlt).resolve_left h0).1;rw[if_neg h0];clear h0;generalize hZZ:zL=Z at*;have hsz:Hid ((prog.info? n2y).map (·.size)=some Z.length/\Z.length=n1y/\∀u∈Z,u.oneCell'=true):=by subst hZZ;exact⟨Ab,rfl,wE⟩
    replace hZZ:=qqh hZZ;go_wp2_with (first
     |(refine zl rfl _ _ _ rfl _ _ _ rfl rfl (by rw[hsz.out.2.1];rfl) hsz.out.1 hsz.out.2.2 ?_)
     |fail)
    try rw[qxr]
    obtain⟨hd9,hU9⟩:=H9.o;have hua:Upd (fun _=>False) w9 (w9.alloc (.cells Z.toArray n2y)):=(uur _ _).alloc _;have hd10:=hd9.new hua;have hU10:=hU9.trans (hua.mono fE);generalize w9.alloc (.cells Z.toArray n2y)=w10 at*;go_ret2
    exact⟨12,.inr ⟨hbd,rfl⟩,rfl,hd10,hU10⟩
  .obtain rfl:i=n:=oM;have k1:¬((i:Int)<(i:Int)):=oM;have HE:=Y2 hd hU;clear hl hd hn hSl hN hSN hz hU;go_wp2_with fail
   try rw[qxr]
   go_ret2
   exact⟨0,.inl rfl,rfl,HE.o.1,HE.o.2⟩):P:=h
def zad(S:Nat->Prop)(w:World)(b:Nat)(F:List Bk)(O:List (Nat×Bk))(P:List Int)(zs:List Value)(cd:Int)(e:Ending)(w':World):Prop:=
 e=.returned (.tuple #[.agg zs.toArray,.int .i64 cd])/\Dv S w' b F O P/\Upd S w w'
def zdF(S:Nat->Prop)(w:World)(b:Nat)(F:List Bk)(O:List (Nat×Bk))(cd:Int)(e:Ending)(w':World):Prop:=
 e=.returned (.tuple #[.slice none 0 0,.int .i64 cd])/\Dv S w' b F O []/\Upd S w w'
def zae(t:TypeId)(w2:World)(s9 s8:Value)(wx:World):Prop:=
 ∃q rs cd,s9=.pointer (some ⟨q,0,none⟩)/\s8=.int .i64 cd/\wx.heap[q]?=some (.cells (rs:List Value).toArray t (0,0))/\w2.heap.size<=q/\Below w2.heap.size w2 wx/\cd≠0
theorem VV{w w':World}{zs:List Value}{n:Nat}(hz:zs.length=n/\∀u∈zs,u.oneCell'=true){e:Ending}(hg:yy w false [] zs 13 e w'):
  yX w (fun rs c=>c≠0/\rs.length=n/\∀u∈rs,u.oneCell'=true) e w':=by
 obtain⟨⟨rs,-,h2,rfl⟩,hb⟩:=hg;exact⟨rs,13,⟨de,by rw[h2 rfl];exact hz⟩,rfl,hb⟩
theorem re{w:World}{p:Nat}{cs:Array Value}{vs:List Value}{t:TypeId}(h:w.heap[p]?=some (.cells cs t (0,0)))(hl:cs.size=vs.length):(w.setCells p 0 vs).heap[p]?=some (.cells vs.toArray t (0,0)):=by
 obtain⟨cur',h2,h3,h4⟩:=zC vs 0 w p _ t (0,0) h;rw[h2];have:cur'=vs.toArray:=by
  apply qxd
  intro k;have e:vs.toArray[k]?=vs[k]?:=oe;rw[h4 k,e,hl];by_cases hk:k<vs.length
  .rw [if_pos ⟨oM,oM,oM⟩];rfl
  .rw [if_neg oM,qxf oM,qyo oM]
 rw[this]
def Tj(bad:Prop)(S:Nat->Prop)(w:World)(b:Nat)(F:List Bk)(O:List (Nat×Bk))(e:Ending)(w':World):Prop:=∃cd,(cd=0\/bad/\cd=12)/\zdF S w b F O cd e w'
namespace fLogYI
def zL:List Value:=[Value.int .i64 0,Value.int .i64 0,Value.int .i64 0,Value.int .i64 0]
theorem qZ:(zL.toArray).all (·.oneCell')=true:=by simp[zL,Value.oneCell']
theorem wE:∀u∈zL,u.oneCell'=true:=by intro u hu;simp[zL]at hu;subst hu;rfl
theorem WM(w:World):(Instr.alloc 154 true (.tuple #[])).run prog w=.ok (.pointer (some ⟨w.heap.size,0,none⟩)) (w.alloc (.cells zL.toArray 154)):=by
 kernel_rfl
end fLogYI
namespace fLogYI
abbrev n1y:Nat:=4
abbrev n2y:Nat:=154
theorem Ab:type_of% @uS:= @uS
theorem q4y:type_of% @func156:= @func156
theorem q5y:type_of% @ntmps156:= @ntmps156
theorem q6y:type_of% @underlying154:= @underlying154
abbrev n7y:Nat:=139
theorem q8y:type_of% @VM:= @VM
theorem q9y:type_of% @VQ:= @VQ
end fLogYI
open fLogYI in
theorem VW{S:Nat->Prop}{w:World}{l b base n fi:Nat}{F:List Bk}{O:List (Nat×Bk)}{P:List Int}(hl:LogI w l b base n fi)(hd:Dv S w b F O P)(hn:∀j,w.heap.size<=j->S j)(hSl:¬S l)(hN:Nib w)
  (hSN:¬S 0) (hbn:base+n<=F.length) (hf:¬fate P=1) {an:Nat} (hann:an<n) (hz:curB F O (base+an)=zB\/sealB (curB F O (base+an))≠curB F O (base+an)):
  Calls prog 156 #[.pointer (some ⟨l,0,none⟩),.int .i64 (an:Int)] w (zad S w b F O P.tail zL (if curB F O (base+an)=zB then 14 else 12)):=wX
namespace fLogYI
theorem zaf:type_of% @func81:= @func81
theorem zag:type_of% @ntmps81:= @ntmps81
theorem zah:type_of% @VW:= @VW
end fLogYI
open fLogYI in
theorem JT{bad:Prop}{S:Nat->Prop}{w:World}{l b base n fi:Nat}{F:List Bk}{O:List (Nat×Bk)}(hl:LogI w l b base n fi)(hd:Dv S w b F O [])(hn:∀j,w.heap.size<=j->S j)(hSl:¬S l)(hN:Nib w)
  (hSN:¬S 0) (hbn:base+n<=F.length) (hz:∀i,i<n->curB F O (base+i)=zB\/bad/\sealB (curB F O (base+i))≠curB F O (base+i)):
  Calls prog 81 #[.pointer (some ⟨l,0,none⟩)] w (Tj bad S w b F O):=wY
namespace fLogYC
def zL:List Value:=[Value.int .i64 0,Value.int .i64 0,Value.int .i64 0,Value.int .i64 0,Value.int .i64 0,Value.int .i64 0]
theorem qZ:(zL.toArray).all (·.oneCell')=true:=by simp[zL,Value.oneCell']
theorem wE:∀u∈zL,u.oneCell'=true:=by intro u hu;simp[zL]at hu;subst hu;rfl
theorem WM(w:World):(Instr.alloc 159 true (.tuple #[])).run prog w=.ok (.pointer (some ⟨w.heap.size,0,none⟩)) (w.alloc (.cells zL.toArray 159)):=by
 kernel_rfl
end fLogYC
namespace fLogYC
abbrev n1y:Nat:=6
abbrev n2y:Nat:=159
theorem Ab:type_of% @ZK:= @ZK
theorem q4y:type_of% @func157:= @func157
theorem q5y:type_of% @ntmps157:= @ntmps157
theorem q6y:type_of% @underlying159:= @underlying159
abbrev n7y:Nat:=143
theorem q8y:type_of% @VN:= @VN
theorem q9y:type_of% @VS:= @VS
end fLogYC
open fLogYC in
theorem VX{S:Nat->Prop}{w:World}{l b base n fi:Nat}{F:List Bk}{O:List (Nat×Bk)}{P:List Int}(hl:LogC w l b base n fi)(hd:Dv S w b F O P)(hn:∀j,w.heap.size<=j->S j)(hSl:¬S l)(hN:Nib w)
  (hSN:¬S 0) (hbn:base+n<=F.length) (hf:¬fate P=1) {an:Nat} (hann:an<n) (hz:curB F O (base+an)=zB\/sealB (curB F O (base+an))≠curB F O (base+an)):
  Calls prog 157 #[.pointer (some ⟨l,0,none⟩),.int .i64 (an:Int)] w (zad S w b F O P.tail zL (if curB F O (base+an)=zB then 14 else 12)):=wX
namespace fLogYC
theorem zaf:type_of% @func82:= @func82
theorem zag:type_of% @ntmps82:= @ntmps82
theorem zah:type_of% @VX:= @VX
end fLogYC
open fLogYC in
theorem JU{bad:Prop}{S:Nat->Prop}{w:World}{l b base n fi:Nat}{F:List Bk}{O:List (Nat×Bk)}(hl:LogC w l b base n fi)(hd:Dv S w b F O [])(hn:∀j,w.heap.size<=j->S j)(hSl:¬S l)(hN:Nib w)
  (hSN:¬S 0) (hbn:base+n<=F.length) (hz:∀i,i<n->curB F O (base+i)=zB\/bad/\sealB (curB F O (base+i))≠curB F O (base+i)):
  Calls prog 82 #[.pointer (some ⟨l,0,none⟩)] w (Tj bad S w b F O):=wY
namespace fLogYF
def zL:List Value:=[Value.int .i64 0,Value.int .i64 0,Value.int .i64 0,Value.int .i64 0,Value.int .i64 0,Value.int .i64 0,Value.int .i64 0,Value.int .i64 0,Value.int .i64 0,Value.int .i64 0,Value.int .i64 0,Value.int .i64 0,Value.int .i64 0]
theorem qZ:(zL.toArray).all (·.oneCell')=true:=by simp[zL,Value.oneCell']
theorem wE:∀u∈zL,u.oneCell'=true:=by intro u hu;simp[zL]at hu;subst hu;rfl
theorem WM(w:World):(Instr.alloc 165 true (.tuple #[])).run prog w=.ok (.pointer (some ⟨w.heap.size,0,none⟩)) (w.alloc (.cells zL.toArray 165)):=by
 kernel_rfl
end fLogYF
namespace fLogYF
abbrev n1y:Nat:=13
abbrev n2y:Nat:=165
theorem Ab:type_of% @ZM:= @ZM
theorem q4y:type_of% @func158:= @func158
theorem q5y:type_of% @ntmps158:= @ntmps158
theorem q6y:type_of% @underlying165:= @underlying165
abbrev n7y:Nat:=147
theorem q8y:type_of% @VO:= @VO
theorem q9y:type_of% @VU:= @VU
end fLogYF
open fLogYF in
theorem VY{S:Nat->Prop}{w:World}{l b base n fi:Nat}{F:List Bk}{O:List (Nat×Bk)}{P:List Int}(hl:LogF w l b base n fi)(hd:Dv S w b F O P)(hn:∀j,w.heap.size<=j->S j)(hSl:¬S l)(hN:Nib w)
  (hSN:¬S 0) (hbn:base+n<=F.length) (hf:¬fate P=1) {an:Nat} (hann:an<n) (hz:curB F O (base+an)=zB\/sealB (curB F O (base+an))≠curB F O (base+an)):
  Calls prog 158 #[.pointer (some ⟨l,0,none⟩),.int .i64 (an:Int)] w (zad S w b F O P.tail zL (if curB F O (base+an)=zB then 14 else 12)):=wX
namespace fLogYF
theorem zaf:type_of% @func83:= @func83
theorem zag:type_of% @ntmps83:= @ntmps83
theorem zah:type_of% @VY:= @VY
end fLogYF
open fLogYF in
theorem JV{bad:Prop}{S:Nat->Prop}{w:World}{l b base n fi:Nat}{F:List Bk}{O:List (Nat×Bk)}(hl:LogF w l b base n fi)(hd:Dv S w b F O [])(hn:∀j,w.heap.size<=j->S j)(hSl:¬S l)(hN:Nib w)
  (hSN:¬S 0) (hbn:base+n<=F.length) (hz:∀i,i<n->curB F O (base+i)=zB\/bad/\sealB (curB F O (base+i))≠curB F O (base+i)):
  Calls prog 83 #[.pointer (some ⟨l,0,none⟩)] w (Tj bad S w b F O):=wY
structure LgsY(bad:Prop)(S:Nat->Prop)(w:World)(li lc lf d base k:Nat)(F:List Bk)(O:List (Nat×Bk)):Prop where
 i:LogI w li d base k 140
 c:LogC w lc d (base+k) k 144
 f:LogF w lf d (base+k+k) k 148
 dv:Dv S w d F O []
 fl:base+k+k+k<=F.length
 nS:∀j,w.heap.size<=j->S j
 iS:¬S li
 cS:¬S lc
 fS:¬S lf
 nib:Nib w
 nibS:¬S 0
 zs:∀j,j<k+k+k->curB F O (base+j)=zB\/bad/\sealB (curB F O (base+j))≠curB F O (base+j)
section
variable{bad:Prop}{S:Nat->Prop}{w w':World}{li lc lf d base k:Nat}{F:List Bk}{O:List (Nat×Bk)}
theorem LgsY.turn(h:LgsY bad S w li lc lf d base k F O)(hu:Upd S w w')(hd:Dv S w' d F O []):LgsY bad S w' li lc lf d base k F O:=
 {h with i:=h.i.keep hu h.iS,c:=h.c.keep hu h.cS,f:=h.f.keep hu h.fS,dv:=hd,nS:=fun j hj=>h.nS j (qXx hu.size hj),nib:=h.nib.keep hu h.nibS}
theorem LgsY.allI(h:LgsY bad S w li lc lf d base k F O):Calls prog 81 #[.pointer (some ⟨li,0,none⟩)] w (Tj bad S w d F O):=
 JT h.i h.dv h.nS h.iS h.nib h.nibS (by have:=h.fl;omega) (fun i hi=>h.zs i oM)
theorem LgsY.allC(h:LgsY bad S w li lc lf d base k F O):Calls prog 82 #[.pointer (some ⟨lc,0,none⟩)] w (Tj bad S w d F O):=
 JU h.c h.dv h.nS h.cS h.nib h.nibS (by have:=h.fl;omega) (fun i hi=>by have:=h.zs (k+i) oM;rwa[<-qXr]at this)
theorem LgsY.allF(h:LgsY bad S w li lc lf d base k F O):Calls prog 83 #[.pointer (some ⟨lf,0,none⟩)] w (Tj bad S w d F O):=
 JV h.f h.dv h.nS h.fS h.nib h.nibS (by have:=h.fl;omega) (fun i hi=>by have:=h.zs (k+k+i) oM;rwa[<-qXr,<-qXr]at this)
theorem LgsY.box(h:LgsY bad S w li lc lf d base k F O)(hu:Upd (fun _=>False) w w'):LgsY bad (fun j=>(S j/\j<w.heap.size)\/w'.heap.size<=j) w' li lc lf d base k F O where
 i:=h.i.keep hu id
 c:=h.c.keep hu id
 f:=h.f.keep hu id
 dv:=(h.dv.kH (T:=fun j=>S j/\j<w.heap.size) (fun j h1 h2=>⟨h1,h2⟩)).keep hu (fun _ _ h=>h)|>.wide (fun j h=> .inl h)
 fl:=h.fl
 nS:=fun j hj=> .inr hj
 iS:=fun h'=>by have:=h.i.lt;have:=hu.size;rcases h' with h'|h';exact h.iS h'.1;omega
 cS:=fun h'=>by have:=h.c.lt;have:=hu.size;rcases h' with h'|h';exact h.cS h'.1;omega
 fS:=fun h'=>by have:=h.f.lt;have:=hu.size;rcases h' with h'|h';exact h.fS h'.1;omega
 nib:=h.nib.keep hu id
 nibS:=fun h'=>by have:=h.nib.lt;have:=hu.size;rcases h' with h'|h';exact h.nibS h'.1;omega
 zs:=h.zs
theorem LgsY.back{w1:World}(h:LgsY bad S w li lc lf d base k F O)(hu1:Upd (fun _=>False) w w1)(hd:Dv (fun j=>(S j/\j<w.heap.size)\/w1.heap.size<=j) w' d F O [])(hu:Upd (fun j=>(S j/\j<w.heap.size)\/w1.heap.size<=j) w1 w'):Dv S w' d F O []/\Upd S w w':=by
 have hs:=hu1.size;exact⟨hd.wide (fun j h'=>h'.elim (fun h=>h.1) (fun h'=>h.nS j oM)),(hu1.mono fE).new hu (fun i hi h'=>h'.elim (fun h=>h.1) (fun h'=>oM))⟩
def zai(bad:Prop)(S:Nat->Prop)(w:World)(d:Nat)(F:List Bk)(O:List (Nat×Bk))(v:Int->Value)(e:Ending)(w':World):Prop:=∃cd,(cd=0\/bad/\cd=12)/\e=.returned (v cd)/\Dv S w' d F O []/\Upd S w w'
theorem Tk(h:LgsY bad S w li lc lf d base k F O)(m:Value)(hm:∃mb,m=.map (some mb)):Calls prog 149 #[.pointer (some ⟨lc,0,none⟩),m,.func (.func 150) #[] #[]] w (zai bad S w d F O (.int .i64)):=by
 have HA:=qqh h.allC;obtain⟨mb,rfl⟩:=hm;clear h;go_enter func149,ntmps149
 go_wp2_with fail
 refine HA.o.mono ?_;rintro e w2 ⟨cd,hcd,rfl,hd2,hu2⟩;have H2:=Y2 hd2 hu2;clear hd2 hu2 HA;rcases hcd with rfl|⟨hbd,rfl⟩
 rotate_left
 .go_wp2_with fail
  go_ret
  exact⟨12,.inr ⟨hbd,rfl⟩,rfl,H2.o.1,H2.o.2⟩
 go_wp2_with fail
 go_loopg[21] 0 (fun gk s21 wr=>s21=.int .i64 0/\wr=w2)
 case atStart=>exact⟨rfl,rfl⟩
 case round=>
  obtain⟨rfl,hw⟩:=hrel;rw[hw];clear hw;go_wp2_with fail
  go_ret
  exact⟨0,.inl rfl,rfl,H2.o.1,H2.o.2⟩
theorem Tl(h:LgsY bad S w li lc lf d base k F O)(m:Value)(hm:∃mb,m=.map (some mb)):Calls prog 151 #[.pointer (some ⟨lf,0,none⟩),m,.func (.func 152) #[] #[]] w (zai bad S w d F O (.int .i64)):=by
 have HA:=qqh h.allF;obtain⟨mb,rfl⟩:=hm;clear h;go_enter func151,ntmps151
 go_wp2_with fail
 refine HA.o.mono ?_;rintro e w2 ⟨cd,hcd,rfl,hd2,hu2⟩;have H2:=Y2 hd2 hu2;clear hd2 hu2 HA;rcases hcd with rfl|⟨hbd,rfl⟩
 rotate_left
 .go_wp2_with fail
  go_ret
  exact⟨12,.inr ⟨hbd,rfl⟩,rfl,H2.o.1,H2.o.2⟩
 go_wp2_with fail
 go_loopg[21] 0 (fun gk s21 wr=>s21=.int .i64 0/\wr=w2)
 case atStart=>exact⟨rfl,rfl⟩
 case round=>
  obtain⟨rfl,hw⟩:=hrel;rw[hw];clear hw;go_wp2_with fail
  go_ret
  exact⟨0,.inl rfl,rfl,H2.o.1,H2.o.2⟩
theorem JW(h:LgsY bad S w li lc lf d base k F O):Calls prog 78 #[.agg #[.pointer (some ⟨li,0,none⟩),.pointer (some ⟨lc,0,none⟩),.pointer (some ⟨lf,0,none⟩)]] w (zai bad S w d F O (fun cd=> .tuple #[.slice none 0 0,.int .i64 cd])):=by
 have hmm:= @run_makeMap prog;obtain⟨w1,hw1⟩:=qqe (w.alloc (.cells #[.pointer (some ⟨li,0,none⟩),.pointer (some ⟨lc,0,none⟩),.pointer (some ⟨lf,0,none⟩)] 67));have hu1:=qqu hw1;have g1:=qqg hw1;have h1:=h.box hu1;obtain⟨T,hT⟩:∃T:Nat->Prop,T=fun j=>(S j/\j<w.heap.size)\/w1.heap.size<=j:=⟨_,rfl⟩
 rw[<-hT]at h1;have hTq:¬T w.heap.size:=by rw[hT];have:=zf g1;rintro(h|h)<;>omega
 have hTn:∀j,w1.heap.size<=j->T j:=fun j hj=>by rw[hT];exact .inr hj
 have H:=Y7 h hu1 h1 hT hTq g1 hTn;have HW:=qqh hw1;have c0:=za g1 0;have HI:=qqh h1.allI;clear h hu1 h1 hT hTq hw1 g1 hTn;go_enter func78,ntmps78
 go_wp2_with fail
 rw[<-HW.o];refine HI.o.mono ?_;rintro e w2 ⟨cd,hcd,rfl,hd2,hu2⟩;rcases hcd with rfl|⟨hbd,rfl⟩
 rotate_left
 .have hu9:=hu2;have hd9:=hd2;rw[H.o.2.2.2.1]at hd9 hu9;have HE:=qqh (H.o.1.back H.o.2.1 hd9 hu9);clear hd9 hu9;clear hd2 hu2 HI c0;go_wp2_with fail
  go_ret2
  exact⟨12,.inr ⟨hbd,rfl⟩,rfl,HE.o.1,HE.o.2⟩
 obtain⟨w3,hw3⟩:=qqe (w2.alloc (.map #[] 0));have hu3:Upd T w2 w3:=by rw[hw3];exact((uur _ w2).alloc _)
 have h3:=(H.o.2.2.1.turn hu2 hd2).turn hu3 (hd2.new (by rw[hw3];exact((uur _ w2).alloc _)));have hu13:=hu2.trans hu3;have c1:=za ((hu13.block _ (zf H.o.2.2.2.2.2.1) H.o.2.2.2.2.1).trans H.o.2.2.2.2.2.1) 1;have HC:=qqh (Tk h3 (.map (some w2.heap.size)) ⟨_,rfl⟩);have H3:=Y2 h3 hu13;have HW3:=qqh hw3;rw[hw3]at c1;clear h3 hd2 hu2 hu3 hu13 HI c0 hw3;go_wp2_with fail
 rw[<-HW3.o];refine HC.o.mono ?_;rintro e w4 ⟨cd,hcd,rfl,hd4,hu4⟩;rcases hcd with rfl|⟨hbd,rfl⟩
 rotate_left
 .have hu9:=H3.o.2.trans hu4;have hd9:=hd4;rw[H.o.2.2.2.1]at hd9 hu9;have HE:=qqh (H.o.1.back H.o.2.1 hd9 hu9);clear hd9 hu9;clear hd4 hu4 HC c1;go_wp2_with fail
  go_ret2
  exact⟨12,.inr ⟨hbd,rfl⟩,rfl,HE.o.1,HE.o.2⟩
 have h4:=H3.o.1.turn hu4 hd4;have hu14:=H3.o.2.trans hu4;have c2:=za ((hu14.block _ (zf H.o.2.2.2.2.2.1) H.o.2.2.2.2.1).trans H.o.2.2.2.2.2.1) 2;have HF:=qqh (Tl h4 (.map (some w2.heap.size)) ⟨_,rfl⟩);have H4:=qqh hu14;clear h4 hd4 hu4 hu14 HC c1;go_wp2_with fail
 refine HF.o.mono ?_;rintro e w5 ⟨cd,hcd,rfl,hd5,hu5⟩;rcases hcd with rfl|⟨hbd,rfl⟩
 rotate_left
 .have hu9:=H4.o.trans hu5;have hd9:=hd5;rw[H.o.2.2.2.1]at hd9 hu9;have HE:=qqh (H.o.1.back H.o.2.1 hd9 hu9);clear hd9 hu9;clear hd5 hu5 HF c2;go_wp2_with fail
  go_ret2
  exact⟨12,.inr ⟨hbd,rfl⟩,rfl,HE.o.1,HE.o.2⟩
 have hu15:=H4.o.trans hu5;rw[H.o.2.2.2.1]at hd5 hu15;have HE:=qqh (H.o.1.back H.o.2.1 hd5 hu15);clear hd5 hu5 hu15 HF c2;go_wp2_with fail
 go_loopg[9,38] 0 (fun gk s9 s38 wr=>s9=.slice none 0 0/\s38=.int .i64 0/\wr=w5)
 case atStart=>exact⟨rfl,rfl,rfl⟩
 case round=>
  obtain⟨rfl,rfl,hw⟩:=hrel;rw[hw];clear hw;go_wp2_with fail
  go_ret2
  exact⟨0,.inl rfl,rfl,HE.o.1,HE.o.2⟩
end
abbrev recC(a0 a1 a2 a3 a4:Int)(d:Bool)(a6:Int):List Value:=[.int .i64 a0,.int .i64 a1,.int .i64 a2,.int .i64 a3,.int .i64 a4,.bool d,.int .i64 a6]
abbrev recX(a0 a1 a2 a3 a4:Int)(d:Bool)(a6:Int):List Int:=[a0,a1,a2,a3,a4,(bitN d:Int),a6]
theorem zcv(a0 a1 a2 a3 a4:Int)(d:Bool)(a6:Int)(w:World):Calls prog 250 #[.agg (recC a0 a1 a2 a3 a4 d a6).toArray] w (zS w 7 (recX a0 a1 a2 a3 a4 d a6)):=by
 obtain⟨L,hL⟩:=qqe ((recC a0 a1 a2 a3 a4 d a6).toArray);have hg:=zc w (.cells L 101) rfl;have c0:(w.alloc (.cells L 101)).cell? ⟨w.heap.size,0,none⟩=some (.int .i64 a0):=(za hg 0).trans oU;have c1:(w.alloc (.cells L 101)).cell? ⟨w.heap.size,1,none⟩=some (.int .i64 a1):=(za hg 1).trans oU;have c2:(w.alloc (.cells L 101)).cell? ⟨w.heap.size,2,none⟩=some (.int .i64 a2):=(za hg 2).trans oU;have c3:(w.alloc (.cells L 101)).cell? ⟨w.heap.size,3,none⟩=some (.int .i64 a3):=(za hg 3).trans oU;have c4:(w.alloc (.cells L 101)).cell? ⟨w.heap.size,4,none⟩=some (.int .i64 a4):=(za hg 4).trans oU;have c5:(w.alloc (.cells L 101)).cell? ⟨w.heap.size,5,none⟩=some (.bool d):=(za hg 5).trans oU;have c6:(w.alloc (.cells L 101)).cell? ⟨w.heap.size,6,none⟩=some (.int .i64 a6):=(za hg 6).trans oU;rw[<-hL];have hb:Below w.heap.size w (w.alloc (.cells L 101)):=(qxl _ _).alloc (qXv _) _;have HB:=qqh hb;clear hg hL hb;go_enter func250,ntmps250
 go_wp2
 generalize w.alloc (.cells L 101)=w1 at*;obtain⟨m,hm⟩:=qqe (w.heap.size);rw[<-hm]at c0 c1 c2 c3 c4 c5 c6⊢;have HM:=qqh hm;clear hm;refine qZj (S:=fun W=>W.cell? ⟨m,0,none⟩=some (.int .i64 a0)/\W.cell? ⟨m,1,none⟩=some (.int .i64 a1)/\W.cell? ⟨m,2,none⟩=some (.int .i64 a2)/\W.cell? ⟨m,3,none⟩=some (.int .i64 a3)/\W.cell? ⟨m,4,none⟩=some (.int .i64 a4)/\W.cell? ⟨m,5,none⟩=some (.bool d)/\W.cell? ⟨m,6,none⟩=some (.int .i64 a6)) kR (by(simp only[qYo]);exact⟨c0,c1,c2,c3,c4,c5,c6⟩) (fun hHeld=>?_);refine Wl.i [0,1,2,3,4,5,6,7,8,9,10,11,13,14] ?_;iterate 14 refine Wl.t hHeld ?_
 refine Wl.o ?_;refine Wl.r 12 (fun K hK=>?_);go_simp
 refine(Vz d _).mono ?_;rintro e w3 ⟨rfl,h3⟩;rw[<-h3];clear h3 w3;refine hK.o _ _ (hHeld) (fun hH1=>?_);clear hK K;refine Wl.r 15 (fun K hK=>?_);go_simp
 refine hK.o _ _ (⟨zm hH1.1 _,zm hH1.2.1 _,zm hH1.2.2.1 _,zm hH1.2.2.2.1 _,zm hH1.2.2.2.2.1 _,zm hH1.2.2.2.2.2.1 _,zm hH1.2.2.2.2.2.2 _⟩) (fun hH2=>?_);clear hK K;refine Wl.r 16 (fun K hK=>?_);go_simp
 refine hK.o _ _ (hH2) (fun hH3=>?_);clear hK K;refine Wl.d ?_;clear hHeld hH1 hH2;go_wp2
 go_ret
 refine⟨w1.heap.size,7,rfl,qXv _,by unfold maxLen;omega,zh (zc w1.drew _ rfl),?_⟩;exact(zR HB.o 1).alloc HB.o.size _
end Go.Proofs.YtfhfbpmlnjdfoaaGreatDoor
