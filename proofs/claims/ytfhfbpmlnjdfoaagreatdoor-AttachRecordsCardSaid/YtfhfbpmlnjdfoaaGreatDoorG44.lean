/- A log of noughts: Get, All. A log of noughts:  -/
import Derived.Test.YtfhfbpmlnjdfoaaGreatDoorG43
set_option maxRecDepth 100000
set_option maxHeartbeats 4000000
namespace Go.Proofs.YtfhfbpmlnjdfoaaGreatDoor
open Go Go.RowKit
theorem Ew:([Value.int .i64 0,Value.int .i64 0,Value.int .i64 0,Value.int .i64 0].toArray).all (·.oneCell')=true:=by simp[Value.oneCell']
def Ex(S:Nat->Prop)(w:World)(b:Nat)(F:List Bk)(O:List (Nat×Bk))(P:List Int)(zs:List Value)(cd:Int)(e:Ending)(w':World):Prop:=
 e=.returned (.tuple #[.agg zs.toArray,.int .i64 cd])/\Dv S w' b F O P/\Upd S w w'
def Ut(S:Nat->Prop)(w:World)(b:Nat)(F:List Bk)(O:List (Nat×Bk))(cd:Int)(e:Ending)(w':World):Prop:=
 e=.returned (.tuple #[.slice none 0 0,.int .i64 cd])/\Dv S w' b F O []/\Upd S w w'
theorem SP{S:Nat->Prop}{w:World}{l b base n fi:Nat}{F:List Bk}{O:List (Nat×Bk)}{P:List Int}(hl:LogI w l b base n fi)(hd:Dv S w b F O P)(hn:∀j,w.heap.size<=j->S j)(hSl:¬S l)(hN:Nib w)
  (hSN:¬S 0) (hbn:base+n<=F.length) (hf:¬fate P=1) {an:Nat} (hann:an<n) (hz:curB F O (base+an)=zB):
  Calls Tryz.prog 156 #[.pointer (some ⟨l,0,none⟩),.int .i64 (an:Int)] w (Ex S w b F O P.tail [Value.int .i64 0,Value.int .i64 0,Value.int .i64 0,Value.int .i64 0] 14):=by
 have hgA:((w.alloc (.cells [Value.int .i64 0,Value.int .i64 0,Value.int .i64 0,Value.int .i64 0].toArray 154)).alloc (.cells [Value.int .i64 0,Value.int .i64 0,Value.int .i64 0,Value.int .i64 0].toArray 154)).heap[w.heap.size]?=some (.cells [Value.int .i64 0,Value.int .i64 0,Value.int .i64 0,Value.int .i64 0].toArray 154):=by rw[qxk _ _ _ (by simp)];exact zc w _ rfl
 have hgB:((w.alloc (.cells [Value.int .i64 0,Value.int .i64 0,Value.int .i64 0,Value.int .i64 0].toArray 154)).alloc (.cells [Value.int .i64 0,Value.int .i64 0,Value.int .i64 0,Value.int .i64 0].toArray 154)).heap[w.heap.size+1]?=some (.cells [Value.int .i64 0,Value.int .i64 0,Value.int .i64 0,Value.int .i64 0].toArray 154):=zc _ _ (by simp);have hu1:Upd (fun _=>False) w ((w.alloc (.cells [Value.int .i64 0,Value.int .i64 0,Value.int .i64 0,Value.int .i64 0].toArray 154)).alloc (.cells [Value.int .i64 0,Value.int .i64 0,Value.int .i64 0,Value.int .i64 0].toArray 154)):=((uur _ w).alloc _).alloc _;have hs1:((w.alloc (.cells [Value.int .i64 0,Value.int .i64 0,Value.int .i64 0,Value.int .i64 0].toArray 154)).alloc (.cells [Value.int .i64 0,Value.int .i64 0,Value.int .i64 0,Value.int .i64 0].toArray 154)).heap.size=w.heap.size+2:=by simp
 have hl1:=hl.keep hu1 (fun h=>h);have hN1:=hN.keep hu1 (fun h=>h);have hfl:=hd.good.fl;obtain⟨c0,c1,c2,-,c4,-⟩:=hl1.c;have hd1:Dv (fun j=>S j/\j≠w.heap.size/\j≠w.heap.size+1) ((w.alloc (.cells [Value.int .i64 0,Value.int .i64 0,Value.int .i64 0,Value.int .i64 0].toArray 154)).alloc (.cells [Value.int .i64 0,Value.int .i64 0,Value.int .i64 0,Value.int .i64 0].toArray 154)) b F O P:=
  (((hd.but (qXv _)).but (q:=w.heap.size+1) (by omega)).keep hu1 (fun _ _ h=>h)).wide (fun j h=>⟨h.1.1,h.1.2,h.2⟩)
 have hn1:∀j,w.heap.size+2<=j->S j/\j≠w.heap.size/\j≠w.heap.size+1:=fun j hj=>⟨hn j (by omega),by omega,by omega⟩
 have HAS:Hid (S w.heap.size):=hn _ (qXv _);have hllt:=hl.lt;have HL:=Y8 hl1 hN1 hu1 hd1 hn1 hSl hSN hs1;clear hl hd hn hSl hN hSN hl1 hN1 hu1 hd1 hn1;go_enter Tryz.func156,Tryz.ntmps156
 .have z1:decide ((an:Int)<0)=false:=by simp
  have z2:decide ((n:Int)<=(an:Int))=false:=by simp;omega
  go_wp2
  generalize (w.alloc (.cells [Value.int .i64 0,Value.int .i64 0,Value.int .i64 0,Value.int .i64 0].toArray 154)).alloc (.cells [Value.int .i64 0,Value.int .i64 0,Value.int .i64 0,Value.int .i64 0].toArray 154)=w1 at*;obtain⟨T,hT⟩:∃T:Nat->Prop,T=fun j=>S j/\j≠w.heap.size/\j≠w.heap.size+1:=⟨_,rfl⟩
  obtain⟨hl1,hN1,hu1,hd1,hn1,hSl,hSN,-⟩:=HL.o;have hTS:∀j,T j->S j:=fun j h=>by rw[hT]at h;exact h.1
  have hTA:¬T w.heap.size:=fun h=>by rw[hT]at h;exact h.2.1 rfl
  have hTA':∀j,T j->j≠w.heap.size:=fun j h e=>hTA (e▸h);have hTB:¬T (w.heap.size+1):=fun h=>by rw[hT]at h;exact h.2.2 rfl
  have hTl:¬T l:=fun h=>hSl (hTS l h);have hTN:¬T 0:=fun h=>hSN (hTS _ h);rw[<-hT]at hd1;replace hn1:∀j,w1.heap.size<=j->T j:=fun j hj=>by rw[hT];exact hn1 j (by omega)
  have HT:=Y13 hTS hTA hTB hTl hTN hd1 hn1 hu1 hl1 hN1 hgA hgB hTA';have hl1lt:=hl1.lt;clear hT hTS hTA hTB hTl hTN hd1 hn1 hu1 hl1 hN1 hgA hgB hSl hSN hTA' hs1
  go_cut [7,8] (fun s7 s8 wx=>qQ T b F O P (base+an) w1 s7 s8 wx)
  case first=>
   have e1:IntKind.i64.wrap ((base:Int)+(an:Int))=((base+an:Nat):Int):=qxv _ (by omega);refine qZj (S:=fun W=>W.cell? ⟨l,0,none⟩=some (.pointer (some ⟨b,0,none⟩))/\W.cell? ⟨l,1,none⟩=some (.int .i64 (base:Int))) (by kernel_rfl) (⟨by rw[qYo];exact c0,by rw[qYo];exact c1⟩) (fun hHeld=>?_);refine Wl.i [0,1,2,3,4,5,6,7,8,9] ?_;iterate 10 refine Wl.t hHeld ?_
   refine Wl.o ?_;refine qZe (rs:=[10,14]) (by kernel_rfl) (by simp) ?_;refine qxb rfl (fun K hK=>?_) (qxb rfl (fun K hK=>?_) qxc)
   .go_simp
    refine(xu (HT.o.2.2.2.2.2.1.keep ((uur (fun _=>False) w1).drew) (fun _ _ h=>h)) (HT.o.2.2.2.2.2.2.1) (base+an) (by omega)).mono ?_;rintro e w7 ⟨z2,cd2,rfl,hz2,hcd2,hz2l,hd7,hu7⟩;have HZ2:=Y2 hz2 hcd2;clear hz2 hcd2;refine hK.o _ _ (⟨hu7.cellv hHeld.1 HT.o.2.2.2.1,hu7.cellv hHeld.2 HT.o.2.2.2.1⟩) (fun hHeld2=>?_);clear hK K;refine Wl.i [11,12,13] ?_;iterate 3 refine Wl.t hHeld2 ?_
    refine Wl.o ?_;refine Wl.r 14 (fun K hK=>?_);go_simp
    show K _ (w7.alloc (.cells (bkC zB).toArray 54));have hg8:=zc w7 (.cells (bkC zB).toArray 54) rfl;have hu8:Upd (fun _=>False) w7 (w7.alloc (.cells (bkC zB).toArray 54)):=(uur _ _).alloc _;have hw67:w1.heap.size<=w7.heap.size:=hu7.size;have hd8:=(hd7.but (qXv _)).keep hu8 (fun _ _ h=>h);have hU8:Upd T w1 (w7.alloc (.cells (bkC zB).toArray 54)):=((uur _ w1).drew.trans hu7).trans (hu8.mono (fun _ _ h=>h.elim));refine hK.o _ _ (⟨hu8.cellv hHeld2.1 (fun h=>h),hu8.cellv hHeld2.2 (fun h=>h)⟩) (fun hHeld3=>?_);clear hK K;generalize w7.heap.size=q at*;generalize w7.alloc (.cells (bkC zB).toArray 54)=w8 at*;refine Wl.r 15 (fun K hK=>?_);rw[if_pos (by rfl)];refine qZk _ _ _ rfl _ _ (List.toArray _) rfl rfl (by rw[zl _ hz2l];exact zD hg8 (by rw[zl _ zw];exact qXv _)) (by rw[zl _ hz2l];exact zF) (qYu (zv _)) ?_;simp only[Act.put,qXi];refine hK.o _ _ (⟨zy hHeld3.1 (by omega),zy hHeld3.2 (by omega)⟩) (fun hHeld4=>?_);clear hK K;refine Wl.r 16 (fun K hK=>?_);go_simp
    refine hK.o _ _ (hHeld4) (fun _=>?_);clear hK K;refine Wl.d ?_;clear hHeld4 e1;go_wp2_with fail
    go_meet
    case rel=>exact⟨q,z2,cd2,rfl,rfl,yn hg8 zw hz2l,hw67,HZ2.o.1,HZ2.o.2,hz2l,hd8.keep (zp w8 q 0 (bkC z2)) (fun j h e=>h.2 e),hU8.trans ((zp w8 q 0 (bkC z2)).mono (fun j _ e=>e▸HT.o.2.2.2.2.2.2.1 _ hw67))⟩
   .go_simp
    show K _ (w1.drew.alloc (.cells (bkC zB).toArray 54));have hg7:(w1.drew.alloc (.cells (bkC zB).toArray 54)).heap[w1.heap.size]?=some (.cells (bkC zB).toArray 54):=zc w1.drew _ rfl;have hu7a:Upd (fun _=>False) w1 (w1.drew.alloc (.cells (bkC zB).toArray 54)):=((uur _ w1).drew).alloc _;have hd7a:Dv (fun j=>T j/\j≠w1.heap.size) (w1.drew.alloc (.cells (bkC zB).toArray 54)) b F O P:=(HT.o.2.2.2.2.2.1.but (qXv _)).keep hu7a (fun _ _ h=>h);have hs7a:(w1.drew.alloc (.cells (bkC zB).toArray 54)).heap.size=w1.heap.size+1:=by simp
    refine hK.o _ _ (⟨hu7a.cellv c0 (fun h=>h),hu7a.cellv c1 (fun h=>h)⟩) (fun hHeld2=>?_);clear hK K;generalize w1.drew.alloc (.cells (bkC zB).toArray 54)=w7a at*;refine Wl.r 10 (fun K hK=>?_);go_simp
    refine(xu (hd7a) (fun j hj=>⟨HT.o.2.2.2.2.2.2.1 j (by omega),by omega⟩) (base+an) (by omega)).mono ?_;rintro e w7 ⟨z2,cd2,rfl,hz2,hcd2,hz2l,hd7,hu7⟩;have HZ2:=Y2 hz2 hcd2;clear hz2 hcd2;have hg8:=(hu7.block w1.heap.size (zd hg7) (fun h=>h.2 rfl)).trans hg7;refine hK.o _ _ (⟨hu7.cellv hHeld2.1 (fun h=>HT.o.2.2.2.1 h.1),hu7.cellv hHeld2.2 (fun h=>HT.o.2.2.2.1 h.1)⟩) (fun hHeld3=>?_);clear hK K;refine Wl.i [11,12,13] ?_;iterate 3 refine Wl.t hHeld3 ?_
    refine Wl.o ?_;refine Wl.r 15 (fun K hK=>?_);rw[if_pos (by rfl)];refine qZk _ _ _ rfl _ _ (List.toArray _) rfl rfl (by rw[zl _ hz2l];exact zD hg8 (by rw[zl _ zw];exact qXv _)) (by rw[zl _ hz2l];exact zF) (qYu (zv _)) ?_;simp only[Act.put,qXi];refine hK.o _ _ (⟨zy hHeld3.1 (by omega),zy hHeld3.2 (by omega)⟩) (fun hHeld4=>?_);clear hK K;refine Wl.r 16 (fun K hK=>?_);go_simp
    refine hK.o _ _ (hHeld4) (fun _=>?_);clear hK K;refine Wl.d ?_;clear hHeld4 e1;go_wp2_with fail
    go_meet
    case rel=>exact⟨w1.heap.size,z2,cd2,rfl,rfl,yn hg8 zw hz2l,qXv _,HZ2.o.1,HZ2.o.2,hz2l,hd7.keep (zp w7 w1.heap.size 0 (bkC z2)) (fun j h e=>h.2 e),((hu7a.mono (fun _ _ h=>h.elim)).trans (hu7.mono (fun j _ h=>h.1))).trans ((zp w7 w1.heap.size 0 (bkC z2)).mono (fun j _ e=>e▸HT.o.2.2.2.2.2.2.1 _ (qXv _)))⟩
  case rest=>
   obtain⟨q,v,cd2,rfl,rfl,hgq,hq,hv,hcd2,hvl,hdx,hux⟩:=hcut;have hgA:=(hux.block _ (zd HT.o.2.2.2.2.2.2.2.2.2.2.1) HT.o.2.1).trans HT.o.2.2.2.2.2.2.2.2.2.2.1;have hgB:=(hux.block _ (zd HT.o.2.2.2.2.2.2.2.2.2.2.2.1) HT.o.2.2.1).trans HT.o.2.2.2.2.2.2.2.2.2.2.2.1;have hlx:=HT.o.2.2.2.2.2.2.2.2.1.keep hux HT.o.2.2.2.1;have hNx:=HT.o.2.2.2.2.2.2.2.2.2.1.keep hux HT.o.2.2.2.2.1;have hUx:Upd S w wc:=(HT.o.2.2.2.2.2.2.2.1.mono (fun _ _ h=>h.elim)).trans (hux.mono (fun j _ h=>HT.o.1 j h));have hdT:Dv T wc b F O P.tail:=hdx.wide (fun j h=>h.1);have rq:=zg hgq;have c4':=hlx.c.2.2.2.2.1;have HQ:=Y9 hdT hUx hlx hNx hgA hgB hvl hv hcd2;have hqlt:=zd hgq;have hAlt:=zd hgA;have hBlt:=zd hgB;have hllx:=hlx.lt;have rB:=zg hgB;have tA:=zD (n:=4) hgA (by simp);clear hgq hq hv hcd2 hvl hdx hux hlx hNx hUx hdT hgA hgB c0 c1 c2 c4;have e0:cd2=0:=by rw[HQ.o.2.2.2.2.2.2.2.2,if_neg hf]
   have ez:v=curB F O (base+an):=by rw[HQ.o.2.2.2.2.2.2.2.1,if_neg hf]
   subst e0;have h0:v=zB:=ez.trans hz;have hq0:∀W,(Op.equalIn 10000 54 (.agg (bkC v).toArray) (.agg #[.int .u8 0,.int .u8 0,.int .u8 0,.int .u8 0,.int .u8 0,.int .u8 0,.int .u8 0,.int .u8 0,.int .u8 0,.int .u8 0,.int .u8 0,.int .u8 0,.int .u8 0,.int .u8 0,.int .u8 0,.int .u8 0,.int .u8 0,.int .u8 0,.int .u8 0,.int .u8 0,.int .u8 0,.int .u8 0,.int .u8 0,.int .u8 0,.int .u8 0,.int .u8 0,.int .u8 0,.int .u8 0,.int .u8 0,.int .u8 0,.int .u8 0,.int .u8 0,.int .u8 0,.int .u8 0,.int .u8 0,.int .u8 0,.int .u8 0,.int .u8 0,.int .u8 0,.int .u8 0,.int .u8 0,.int .u8 0,.int .u8 0,.int .u8 0,.int .u8 0,.int .u8 0,.int .u8 0,.int .u8 0,.int .u8 0,.int .u8 0,.int .u8 0,.int .u8 0,.int .u8 0,.int .u8 0,.int .u8 0,.int .u8 0,.int .u8 0,.int .u8 0,.int .u8 0,.int .u8 0,.int .u8 0,.int .u8 0,.int .u8 0,.int .u8 0])).run Tryz.prog W=.ok (v==zB) W:=tx v zB HQ.o.2.2.2.2.2.2.1 zw;have hb0:(v==zB)=true:=by simpa using h0
   have HD:Hid (Dv (fun j=>T j/\j≠w.heap.size) wc b F O P.tail/\Upd S w wc):=⟨(HQ.o.1).wide (fun j h=>⟨h,HT.o.2.2.2.2.2.2.2.2.2.2.2.2 j h⟩),HQ.o.2.1⟩
   clear h0 ez;go_wp2_with (first
    |(refine qZg rfl _ _ rfl _ _ rfl _ _ rq Tryz.underlying54 rfl (zt _ HQ.o.2.2.2.2.2.2.1) ?_)
    |(refine qZg rfl _ _ rfl _ _ rfl _ _ rB Tryz.underlying154 rfl sQ ?_)
    |(refine qZi rfl _ _ _ rfl _ _ [Value.int .i64 0,Value.int .i64 0,Value.int .i64 0,Value.int .i64 0].toArray rfl rfl tA sQ Ew ?_)
    |fail)
   refine qYw (zn rfl _ _ w.heap.size 0 [Value.int .i64 0,Value.int .i64 0,Value.int .i64 0,Value.int .i64 0] _ rfl (qYr _ _ _ _ tA) Tryz.underlying154 rfl sQ) rfl ?_;exact⟨rfl,HD.o.1.keep (zp _ w.heap.size 0 _) (fun j h e=>h.2 e)|>.wide (fun j h=>HT.o.1 j h.1),HD.o.2.trans ((zp _ w.heap.size 0 _).mono (fun j _ e=>e▸HAS.o))⟩
theorem SQ{S:Nat->Prop}{w:World}{l b base n fi:Nat}{F:List Bk}{O:List (Nat×Bk)}(hl:LogI w l b base n fi)(hd:Dv S w b F O [])(hn:∀j,w.heap.size<=j->S j)(hSl:¬S l)(hN:Nib w)
  (hSN:¬S 0) (hbn:base+n<=F.length) (hz:∀i,i<n->curB F O (base+i)=zB):
  Calls Tryz.prog 81 #[.pointer (some ⟨l,0,none⟩)] w (Ut S w b F O 0):=by
 have hfl:=hd.good.fl;obtain⟨-,-,c2,-⟩:=hl.c;have H:=Y7 hl hd hn hSl hN hSN hz;clear hl hd hn hSl hN hSN hz;go_enter Tryz.func81,Tryz.ntmps81
 go_wp2
 go_step3
 go_wp2
 go_step3
 go_wp2
 go_loopg[4,5,15] n (fun gk s4 s5 s15 wr=>∃i:Nat,i+gk=n/\s15=.int .i64 i/\s5=.int .i64 0/\s4=.slice none 0 0/\Dv S wr b F O []/\Upd S w wr)
 case atStart=>exact⟨0,by omega,rfl,rfl,rfl,H.o.2.1,uur _ _⟩
 case round=>
  obtain⟨i,hi,rfl,rfl,rfl,hd,hU⟩:=hrel;obtain⟨hl,-,hn,hSl,hN,hSN,hz⟩:=H.o;by_cases hlt:i<n
  .have HG:=qqh (SP (hl.keep hU hSl) hd (fun j hj=>hn j (qXx hU.size hj)) hSl (hN.keep hU hSN) hSN hbn (by decide) hlt (hz i hlt));have HU:=qqh hU;have k1:(i:Int)<(n:Int):=by omega
   clear hl hd hn hSl hN hSN hz hU;go_wp2_with fail
   refine HG.o.mono ?_;rintro e w9 ⟨rfl,hd9,hU9⟩;have H9:=Y2 hd9 (HU.o.trans hU9);clear hd9 hU9 HG;generalize hZZ:[Value.int .i64 0,Value.int .i64 0,Value.int .i64 0,Value.int .i64 0]=Z at*;have hsz:Hid ((Tryz.prog.info? 154).map (·.size)=some Z.length/\Z.length=4/\∀u∈Z,u.oneCell'=true):=by subst hZZ;exact⟨sQ,rfl,by intro u hu;simp at hu;subst hu;rfl⟩
   replace hZZ:=qqh hZZ;go_wp2_with (first
    |(refine zk rfl _ _ _ rfl _ _ _ rfl rfl (by rw[hsz.out.2.1];rfl) hsz.out.1 hsz.out.2.2 ?_)
    |fail)
   obtain⟨hd9,hU9⟩:=H9.o;have hua:Upd (fun _=>False) w9 (w9.alloc (.cells Z.toArray 154)):=(uur _ _).alloc _;have hd10:=hd9.new hua;have hU10:=hU9.trans (hua.mono (fun _ _ h=>h.elim));generalize w9.alloc (.cells Z.toArray 154)=w10 at*;go_roundg (gk-1)
   case measure=>omega
   case rel=>exact⟨i+1,by omega,by go_num,rfl,rfl,hd10,hU10⟩
  .obtain rfl:i=n:=by omega
   have k1:¬((i:Int)<(i:Int)):=by omega
   have HE:=Y2 hd hU;clear hl hd hn hSl hN hSN hz hU;go_wp2_with fail
   try rw[qxr]
   go_ret2
   exact⟨rfl,HE.o.1,HE.o.2⟩
theorem Ey:([Value.int .i64 0,Value.int .i64 0,Value.int .i64 0,Value.int .i64 0,Value.int .i64 0,Value.int .i64 0].toArray).all (·.oneCell')=true:=by simp[Value.oneCell']
theorem SR{S:Nat->Prop}{w:World}{l b base n fi:Nat}{F:List Bk}{O:List (Nat×Bk)}{P:List Int}(hl:LogC w l b base n fi)(hd:Dv S w b F O P)(hn:∀j,w.heap.size<=j->S j)(hSl:¬S l)(hN:Nib w)
  (hSN:¬S 0) (hbn:base+n<=F.length) (hf:¬fate P=1) {an:Nat} (hann:an<n) (hz:curB F O (base+an)=zB):
  Calls Tryz.prog 157 #[.pointer (some ⟨l,0,none⟩),.int .i64 (an:Int)] w (Ex S w b F O P.tail [Value.int .i64 0,Value.int .i64 0,Value.int .i64 0,Value.int .i64 0,Value.int .i64 0,Value.int .i64 0] 14):=by
 obtain⟨Z,hZ⟩:∃Z:List Value,Z=[Value.int .i64 0,Value.int .i64 0,Value.int .i64 0,Value.int .i64 0,Value.int .i64 0,Value.int .i64 0]:=⟨_,rfl⟩
 have hal:=Ua;rw[<-hZ];simp only[<-hZ]at hal;have HZZ:Hid (Z=[Value.int .i64 0,Value.int .i64 0,Value.int .i64 0,Value.int .i64 0,Value.int .i64 0,Value.int .i64 0]/\Z.length=6/\Z.toArray.size=6/\(Tryz.prog.info? 159).map (·.size)=some Z.toArray.size/\(Z.toArray).all (·.oneCell')=true/\(Tryz.prog.info? 159).map (·.size)=some Z.length/\∀u∈Z,u.oneCell'=true):=⟨hZ,by rw[hZ];rfl,by rw[hZ];rfl,by rw[hZ];exact XI,by rw[hZ];exact Ey,by rw[hZ];exact XI,by rw[hZ];intro u hu;simp at hu;subst hu;rfl⟩
 clear hZ;have hgA:((w.alloc (.cells Z.toArray 159)).alloc (.cells Z.toArray 159)).heap[w.heap.size]?=some (.cells Z.toArray 159):=by rw[qxk _ _ _ (by simp)];exact zc w _ rfl
 have hgB:((w.alloc (.cells Z.toArray 159)).alloc (.cells Z.toArray 159)).heap[w.heap.size+1]?=some (.cells Z.toArray 159):=zc _ _ (by simp);have hu1:Upd (fun _=>False) w ((w.alloc (.cells Z.toArray 159)).alloc (.cells Z.toArray 159)):=((uur _ w).alloc _).alloc _;have hs1:((w.alloc (.cells Z.toArray 159)).alloc (.cells Z.toArray 159)).heap.size=w.heap.size+2:=by simp
 have hl1:=hl.keep hu1 (fun h=>h);have hN1:=hN.keep hu1 (fun h=>h);have hfl:=hd.good.fl;obtain⟨c0,c1,c2,-,c4,-⟩:=hl1.c;have hd1:Dv (fun j=>S j/\j≠w.heap.size/\j≠w.heap.size+1) ((w.alloc (.cells Z.toArray 159)).alloc (.cells Z.toArray 159)) b F O P:=
  (((hd.but (qXv _)).but (q:=w.heap.size+1) (by omega)).keep hu1 (fun _ _ h=>h)).wide (fun j h=>⟨h.1.1,h.1.2,h.2⟩)
 have hn1:∀j,w.heap.size+2<=j->S j/\j≠w.heap.size/\j≠w.heap.size+1:=fun j hj=>⟨hn j (by omega),by omega,by omega⟩
 have HAS:Hid (S w.heap.size):=hn _ (qXv _);have hllt:=hl.lt;have HL:=Y8 hl1 hN1 hu1 hd1 hn1 hSl hSN hs1;clear hl hd hn hSl hN hSN hl1 hN1 hu1 hd1 hn1;go_enter Tryz.func157,Tryz.ntmps157
 .have z1:decide ((an:Int)<0)=false:=by simp
  have z2:decide ((n:Int)<=(an:Int))=false:=by simp;omega
  go_wp2_with (first
   |(refine zT rfl _ rfl _ hal ?_)
   |fail)
  generalize (w.alloc (.cells Z.toArray 159)).alloc (.cells Z.toArray 159)=w1 at*;obtain⟨T,hT⟩:∃T:Nat->Prop,T=fun j=>S j/\j≠w.heap.size/\j≠w.heap.size+1:=⟨_,rfl⟩
  obtain⟨hl1,hN1,hu1,hd1,hn1,hSl,hSN,-⟩:=HL.o;have hTS:∀j,T j->S j:=fun j h=>by rw[hT]at h;exact h.1
  have hTA:¬T w.heap.size:=fun h=>by rw[hT]at h;exact h.2.1 rfl
  have hTA':∀j,T j->j≠w.heap.size:=fun j h e=>hTA (e▸h);have hTB:¬T (w.heap.size+1):=fun h=>by rw[hT]at h;exact h.2.2 rfl
  have hTl:¬T l:=fun h=>hSl (hTS l h);have hTN:¬T 0:=fun h=>hSN (hTS _ h);rw[<-hT]at hd1;replace hn1:∀j,w1.heap.size<=j->T j:=fun j hj=>by rw[hT];exact hn1 j (by omega)
  have HT:=Y13 hTS hTA hTB hTl hTN hd1 hn1 hu1 hl1 hN1 hgA hgB hTA';have hl1lt:=hl1.lt;clear hT hTS hTA hTB hTl hTN hd1 hn1 hu1 hl1 hN1 hgA hgB hSl hSN hTA' hs1
  go_cut [7,8] (fun s7 s8 wx=>qQ T b F O P (base+an) w1 s7 s8 wx)
  case first=>
   have e1:IntKind.i64.wrap ((base:Int)+(an:Int))=((base+an:Nat):Int):=qxv _ (by omega);refine qZj (S:=fun W=>W.cell? ⟨l,0,none⟩=some (.pointer (some ⟨b,0,none⟩))/\W.cell? ⟨l,1,none⟩=some (.int .i64 (base:Int))) (by kernel_rfl) (⟨by rw[qYo];exact c0,by rw[qYo];exact c1⟩) (fun hHeld=>?_);refine Wl.i [0,1,2,3,4,5,6,7,8,9] ?_;iterate 10 refine Wl.t hHeld ?_
   refine Wl.o ?_;refine qZe (rs:=[10,14]) (by kernel_rfl) (by simp) ?_;refine qxb rfl (fun K hK=>?_) (qxb rfl (fun K hK=>?_) qxc)
   .go_simp
    refine(xu (HT.o.2.2.2.2.2.1.keep ((uur (fun _=>False) w1).drew) (fun _ _ h=>h)) (HT.o.2.2.2.2.2.2.1) (base+an) (by omega)).mono ?_;rintro e w7 ⟨z2,cd2,rfl,hz2,hcd2,hz2l,hd7,hu7⟩;have HZ2:=Y2 hz2 hcd2;clear hz2 hcd2;refine hK.o _ _ (⟨hu7.cellv hHeld.1 HT.o.2.2.2.1,hu7.cellv hHeld.2 HT.o.2.2.2.1⟩) (fun hHeld2=>?_);clear hK K;refine Wl.i [11,12,13] ?_;iterate 3 refine Wl.t hHeld2 ?_
    refine Wl.o ?_;refine Wl.r 14 (fun K hK=>?_);go_simp
    show K _ (w7.alloc (.cells (bkC zB).toArray 54));have hg8:=zc w7 (.cells (bkC zB).toArray 54) rfl;have hu8:Upd (fun _=>False) w7 (w7.alloc (.cells (bkC zB).toArray 54)):=(uur _ _).alloc _;have hw67:w1.heap.size<=w7.heap.size:=hu7.size;have hd8:=(hd7.but (qXv _)).keep hu8 (fun _ _ h=>h);have hU8:Upd T w1 (w7.alloc (.cells (bkC zB).toArray 54)):=((uur _ w1).drew.trans hu7).trans (hu8.mono (fun _ _ h=>h.elim));refine hK.o _ _ (⟨hu8.cellv hHeld2.1 (fun h=>h),hu8.cellv hHeld2.2 (fun h=>h)⟩) (fun hHeld3=>?_);clear hK K;generalize w7.heap.size=q at*;generalize w7.alloc (.cells (bkC zB).toArray 54)=w8 at*;refine Wl.r 15 (fun K hK=>?_);rw[if_pos (by rfl)];refine qZk _ _ _ rfl _ _ (List.toArray _) rfl rfl (by rw[zl _ hz2l];exact zD hg8 (by rw[zl _ zw];exact qXv _)) (by rw[zl _ hz2l];exact zF) (qYu (zv _)) ?_;simp only[Act.put,qXi];refine hK.o _ _ (⟨zy hHeld3.1 (by omega),zy hHeld3.2 (by omega)⟩) (fun hHeld4=>?_);clear hK K;refine Wl.r 16 (fun K hK=>?_);go_simp
    refine hK.o _ _ (hHeld4) (fun _=>?_);clear hK K;refine Wl.d ?_;clear hHeld4 e1;go_wp2_with fail
    go_meet
    case rel=>exact⟨q,z2,cd2,rfl,rfl,yn hg8 zw hz2l,hw67,HZ2.o.1,HZ2.o.2,hz2l,hd8.keep (zp w8 q 0 (bkC z2)) (fun j h e=>h.2 e),hU8.trans ((zp w8 q 0 (bkC z2)).mono (fun j _ e=>e▸HT.o.2.2.2.2.2.2.1 _ hw67))⟩
   .go_simp
    show K _ (w1.drew.alloc (.cells (bkC zB).toArray 54));have hg7:(w1.drew.alloc (.cells (bkC zB).toArray 54)).heap[w1.heap.size]?=some (.cells (bkC zB).toArray 54):=zc w1.drew _ rfl;have hu7a:Upd (fun _=>False) w1 (w1.drew.alloc (.cells (bkC zB).toArray 54)):=((uur _ w1).drew).alloc _;have hd7a:Dv (fun j=>T j/\j≠w1.heap.size) (w1.drew.alloc (.cells (bkC zB).toArray 54)) b F O P:=(HT.o.2.2.2.2.2.1.but (qXv _)).keep hu7a (fun _ _ h=>h);have hs7a:(w1.drew.alloc (.cells (bkC zB).toArray 54)).heap.size=w1.heap.size+1:=by simp
    refine hK.o _ _ (⟨hu7a.cellv c0 (fun h=>h),hu7a.cellv c1 (fun h=>h)⟩) (fun hHeld2=>?_);clear hK K;generalize w1.drew.alloc (.cells (bkC zB).toArray 54)=w7a at*;refine Wl.r 10 (fun K hK=>?_);go_simp
    refine(xu (hd7a) (fun j hj=>⟨HT.o.2.2.2.2.2.2.1 j (by omega),by omega⟩) (base+an) (by omega)).mono ?_;rintro e w7 ⟨z2,cd2,rfl,hz2,hcd2,hz2l,hd7,hu7⟩;have HZ2:=Y2 hz2 hcd2;clear hz2 hcd2;have hg8:=(hu7.block w1.heap.size (zd hg7) (fun h=>h.2 rfl)).trans hg7;refine hK.o _ _ (⟨hu7.cellv hHeld2.1 (fun h=>HT.o.2.2.2.1 h.1),hu7.cellv hHeld2.2 (fun h=>HT.o.2.2.2.1 h.1)⟩) (fun hHeld3=>?_);clear hK K;refine Wl.i [11,12,13] ?_;iterate 3 refine Wl.t hHeld3 ?_
    refine Wl.o ?_;refine Wl.r 15 (fun K hK=>?_);rw[if_pos (by rfl)];refine qZk _ _ _ rfl _ _ (List.toArray _) rfl rfl (by rw[zl _ hz2l];exact zD hg8 (by rw[zl _ zw];exact qXv _)) (by rw[zl _ hz2l];exact zF) (qYu (zv _)) ?_;simp only[Act.put,qXi];refine hK.o _ _ (⟨zy hHeld3.1 (by omega),zy hHeld3.2 (by omega)⟩) (fun hHeld4=>?_);clear hK K;refine Wl.r 16 (fun K hK=>?_);go_simp
    refine hK.o _ _ (hHeld4) (fun _=>?_);clear hK K;refine Wl.d ?_;clear hHeld4 e1;go_wp2_with fail
    go_meet
    case rel=>exact⟨w1.heap.size,z2,cd2,rfl,rfl,yn hg8 zw hz2l,qXv _,HZ2.o.1,HZ2.o.2,hz2l,hd7.keep (zp w7 w1.heap.size 0 (bkC z2)) (fun j h e=>h.2 e),((hu7a.mono (fun _ _ h=>h.elim)).trans (hu7.mono (fun j _ h=>h.1))).trans ((zp w7 w1.heap.size 0 (bkC z2)).mono (fun j _ e=>e▸HT.o.2.2.2.2.2.2.1 _ (qXv _)))⟩
  case rest=>
   obtain⟨q,v,cd2,rfl,rfl,hgq,hq,hv,hcd2,hvl,hdx,hux⟩:=hcut;have hgA:=(hux.block _ (zd HT.o.2.2.2.2.2.2.2.2.2.2.1) HT.o.2.1).trans HT.o.2.2.2.2.2.2.2.2.2.2.1;have hgB:=(hux.block _ (zd HT.o.2.2.2.2.2.2.2.2.2.2.2.1) HT.o.2.2.1).trans HT.o.2.2.2.2.2.2.2.2.2.2.2.1;have hlx:=HT.o.2.2.2.2.2.2.2.2.1.keep hux HT.o.2.2.2.1;have hNx:=HT.o.2.2.2.2.2.2.2.2.2.1.keep hux HT.o.2.2.2.2.1;have hUx:Upd S w wc:=(HT.o.2.2.2.2.2.2.2.1.mono (fun _ _ h=>h.elim)).trans (hux.mono (fun j _ h=>HT.o.1 j h));have hdT:Dv T wc b F O P.tail:=hdx.wide (fun j h=>h.1);have rq:=zg hgq;have c4':=hlx.c.2.2.2.2.1;have HQ:=Y9 hdT hUx hlx hNx hgA hgB hvl hv hcd2;have hqlt:=zd hgq;have hAlt:=zd hgA;have hBlt:=zd hgB;have hllx:=hlx.lt;have rB:=zg hgB;have tA:=zD (n:=6) hgA (by rw[HZZ.o.2.2.1];exact qXv _);clear hgq hq hv hcd2 hvl hdx hux hlx hNx hUx hdT hgA hgB c0 c1 c2 c4;have e0:cd2=0:=by rw[HQ.o.2.2.2.2.2.2.2.2,if_neg hf]
   have ez:v=curB F O (base+an):=by rw[HQ.o.2.2.2.2.2.2.2.1,if_neg hf]
   subst e0;have h0:v=zB:=ez.trans hz;have hq0:∀W,(Op.equalIn 10000 54 (.agg (bkC v).toArray) (.agg #[.int .u8 0,.int .u8 0,.int .u8 0,.int .u8 0,.int .u8 0,.int .u8 0,.int .u8 0,.int .u8 0,.int .u8 0,.int .u8 0,.int .u8 0,.int .u8 0,.int .u8 0,.int .u8 0,.int .u8 0,.int .u8 0,.int .u8 0,.int .u8 0,.int .u8 0,.int .u8 0,.int .u8 0,.int .u8 0,.int .u8 0,.int .u8 0,.int .u8 0,.int .u8 0,.int .u8 0,.int .u8 0,.int .u8 0,.int .u8 0,.int .u8 0,.int .u8 0,.int .u8 0,.int .u8 0,.int .u8 0,.int .u8 0,.int .u8 0,.int .u8 0,.int .u8 0,.int .u8 0,.int .u8 0,.int .u8 0,.int .u8 0,.int .u8 0,.int .u8 0,.int .u8 0,.int .u8 0,.int .u8 0,.int .u8 0,.int .u8 0,.int .u8 0,.int .u8 0,.int .u8 0,.int .u8 0,.int .u8 0,.int .u8 0,.int .u8 0,.int .u8 0,.int .u8 0,.int .u8 0,.int .u8 0,.int .u8 0,.int .u8 0,.int .u8 0])).run Tryz.prog W=.ok (v==zB) W:=tx v zB HQ.o.2.2.2.2.2.2.1 zw;have hb0:(v==zB)=true:=by simpa using h0
   have HD:Hid (Dv (fun j=>T j/\j≠w.heap.size) wc b F O P.tail/\Upd S w wc):=⟨(HQ.o.1).wide (fun j h=>⟨h,HT.o.2.2.2.2.2.2.2.2.2.2.2.2 j h⟩),HQ.o.2.1⟩
   clear h0 ez;go_wp2_with (first
    |(refine qZg rfl _ _ rfl _ _ rfl _ _ rq Tryz.underlying54 rfl (zt _ HQ.o.2.2.2.2.2.2.1) ?_)
    |(refine qZg rfl _ _ rfl _ _ rfl _ _ rB Tryz.underlying159 rfl HZZ.o.2.2.2.2.2.1 ?_)
    |(refine qZi rfl _ _ _ rfl _ _ Z.toArray rfl rfl (by rw[HZZ.o.2.2.1];exact tA) HZZ.o.2.2.2.1 HZZ.o.2.2.2.2.1 ?_)
    |fail)
   refine qYw (zn rfl _ _ w.heap.size 0 Z _ rfl (qYr _ _ _ _ (by rw[HZZ.o.2.1];exact tA)) Tryz.underlying159 rfl HZZ.o.2.2.2.2.2.1) rfl ?_;exact⟨rfl,HD.o.1.keep (zp _ w.heap.size 0 _) (fun j h e=>h.2 e)|>.wide (fun j h=>HT.o.1 j h.1),HD.o.2.trans ((zp _ w.heap.size 0 _).mono (fun j _ e=>e▸HAS.o))⟩
theorem SS{S:Nat->Prop}{w:World}{l b base n fi:Nat}{F:List Bk}{O:List (Nat×Bk)}(hl:LogC w l b base n fi)(hd:Dv S w b F O [])(hn:∀j,w.heap.size<=j->S j)(hSl:¬S l)(hN:Nib w)
  (hSN:¬S 0) (hbn:base+n<=F.length) (hz:∀i,i<n->curB F O (base+i)=zB):
  Calls Tryz.prog 82 #[.pointer (some ⟨l,0,none⟩)] w (Ut S w b F O 0):=by
 have hfl:=hd.good.fl;obtain⟨-,-,c2,-⟩:=hl.c;have H:=Y7 hl hd hn hSl hN hSN hz;clear hl hd hn hSl hN hSN hz;go_enter Tryz.func82,Tryz.ntmps82
 go_wp2
 go_step3
 go_wp2
 go_step3
 go_wp2
 go_loopg[4,5,15] n (fun gk s4 s5 s15 wr=>∃i:Nat,i+gk=n/\s15=.int .i64 i/\s5=.int .i64 0/\s4=.slice none 0 0/\Dv S wr b F O []/\Upd S w wr)
 case atStart=>exact⟨0,by omega,rfl,rfl,rfl,H.o.2.1,uur _ _⟩
 case round=>
  obtain⟨i,hi,rfl,rfl,rfl,hd,hU⟩:=hrel;obtain⟨hl,-,hn,hSl,hN,hSN,hz⟩:=H.o;by_cases hlt:i<n
  .have HG:=qqh (SR (hl.keep hU hSl) hd (fun j hj=>hn j (qXx hU.size hj)) hSl (hN.keep hU hSN) hSN hbn (by decide) hlt (hz i hlt));have HU:=qqh hU;have k1:(i:Int)<(n:Int):=by omega
   clear hl hd hn hSl hN hSN hz hU;go_wp2_with fail
   refine HG.o.mono ?_;rintro e w9 ⟨rfl,hd9,hU9⟩;have H9:=Y2 hd9 (HU.o.trans hU9);clear hd9 hU9 HG;generalize hZZ:[Value.int .i64 0,Value.int .i64 0,Value.int .i64 0,Value.int .i64 0,Value.int .i64 0,Value.int .i64 0]=Z at*;have hsz:Hid ((Tryz.prog.info? 159).map (·.size)=some Z.length/\Z.length=6/\∀u∈Z,u.oneCell'=true):=by subst hZZ;exact⟨XI,rfl,by intro u hu;simp at hu;subst hu;rfl⟩
   replace hZZ:=qqh hZZ;go_wp2_with (first
    |(refine zk rfl _ _ _ rfl _ _ _ rfl rfl (by rw[hsz.out.2.1];rfl) hsz.out.1 hsz.out.2.2 ?_)
    |fail)
   obtain⟨hd9,hU9⟩:=H9.o;have hua:Upd (fun _=>False) w9 (w9.alloc (.cells Z.toArray 159)):=(uur _ _).alloc _;have hd10:=hd9.new hua;have hU10:=hU9.trans (hua.mono (fun _ _ h=>h.elim));generalize w9.alloc (.cells Z.toArray 159)=w10 at*;go_roundg (gk-1)
   case measure=>omega
   case rel=>exact⟨i+1,by omega,by go_num,rfl,rfl,hd10,hU10⟩
  .obtain rfl:i=n:=by omega
   have k1:¬((i:Int)<(i:Int)):=by omega
   have HE:=Y2 hd hU;clear hl hd hn hSl hN hSN hz hU;go_wp2_with fail
   try rw[qxr]
   go_ret2
   exact⟨rfl,HE.o.1,HE.o.2⟩
theorem Ez:([Value.int .i64 0,Value.int .i64 0,Value.int .i64 0,Value.int .i64 0,Value.int .i64 0,Value.int .i64 0,Value.int .i64 0,Value.int .i64 0,Value.int .i64 0,Value.int .i64 0,Value.int .i64 0,Value.int .i64 0,Value.int .i64 0].toArray).all (·.oneCell')=true:=by simp[Value.oneCell']
theorem ST{S:Nat->Prop}{w:World}{l b base n fi:Nat}{F:List Bk}{O:List (Nat×Bk)}{P:List Int}(hl:LogF w l b base n fi)(hd:Dv S w b F O P)(hn:∀j,w.heap.size<=j->S j)(hSl:¬S l)(hN:Nib w)
  (hSN:¬S 0) (hbn:base+n<=F.length) (hf:¬fate P=1) {an:Nat} (hann:an<n) (hz:curB F O (base+an)=zB):
  Calls Tryz.prog 158 #[.pointer (some ⟨l,0,none⟩),.int .i64 (an:Int)] w (Ex S w b F O P.tail [Value.int .i64 0,Value.int .i64 0,Value.int .i64 0,Value.int .i64 0,Value.int .i64 0,Value.int .i64 0,Value.int .i64 0,Value.int .i64 0,Value.int .i64 0,Value.int .i64 0,Value.int .i64 0,Value.int .i64 0,Value.int .i64 0] 14):=by
 obtain⟨Z,hZ⟩:∃Z:List Value,Z=[Value.int .i64 0,Value.int .i64 0,Value.int .i64 0,Value.int .i64 0,Value.int .i64 0,Value.int .i64 0,Value.int .i64 0,Value.int .i64 0,Value.int .i64 0,Value.int .i64 0,Value.int .i64 0,Value.int .i64 0,Value.int .i64 0]:=⟨_,rfl⟩
 have hal:=Ub;rw[<-hZ];simp only[<-hZ]at hal;have HZZ:Hid (Z=[Value.int .i64 0,Value.int .i64 0,Value.int .i64 0,Value.int .i64 0,Value.int .i64 0,Value.int .i64 0,Value.int .i64 0,Value.int .i64 0,Value.int .i64 0,Value.int .i64 0,Value.int .i64 0,Value.int .i64 0,Value.int .i64 0]/\Z.length=13/\Z.toArray.size=13/\(Tryz.prog.info? 165).map (·.size)=some Z.toArray.size/\(Z.toArray).all (·.oneCell')=true/\(Tryz.prog.info? 165).map (·.size)=some Z.length/\∀u∈Z,u.oneCell'=true):=⟨hZ,by rw[hZ];rfl,by rw[hZ];rfl,by rw[hZ];exact XJ,by rw[hZ];exact Ez,by rw[hZ];exact XJ,by rw[hZ];intro u hu;simp at hu;subst hu;rfl⟩
 clear hZ;have hgA:((w.alloc (.cells Z.toArray 165)).alloc (.cells Z.toArray 165)).heap[w.heap.size]?=some (.cells Z.toArray 165):=by rw[qxk _ _ _ (by simp)];exact zc w _ rfl
 have hgB:((w.alloc (.cells Z.toArray 165)).alloc (.cells Z.toArray 165)).heap[w.heap.size+1]?=some (.cells Z.toArray 165):=zc _ _ (by simp);have hu1:Upd (fun _=>False) w ((w.alloc (.cells Z.toArray 165)).alloc (.cells Z.toArray 165)):=((uur _ w).alloc _).alloc _;have hs1:((w.alloc (.cells Z.toArray 165)).alloc (.cells Z.toArray 165)).heap.size=w.heap.size+2:=by simp
 have hl1:=hl.keep hu1 (fun h=>h);have hN1:=hN.keep hu1 (fun h=>h);have hfl:=hd.good.fl;obtain⟨c0,c1,c2,-,c4,-⟩:=hl1.c;have hd1:Dv (fun j=>S j/\j≠w.heap.size/\j≠w.heap.size+1) ((w.alloc (.cells Z.toArray 165)).alloc (.cells Z.toArray 165)) b F O P:=
  (((hd.but (qXv _)).but (q:=w.heap.size+1) (by omega)).keep hu1 (fun _ _ h=>h)).wide (fun j h=>⟨h.1.1,h.1.2,h.2⟩)
 have hn1:∀j,w.heap.size+2<=j->S j/\j≠w.heap.size/\j≠w.heap.size+1:=fun j hj=>⟨hn j (by omega),by omega,by omega⟩
 have HAS:Hid (S w.heap.size):=hn _ (qXv _);have hllt:=hl.lt;have HL:=Y8 hl1 hN1 hu1 hd1 hn1 hSl hSN hs1;clear hl hd hn hSl hN hSN hl1 hN1 hu1 hd1 hn1;go_enter Tryz.func158,Tryz.ntmps158
 .have z1:decide ((an:Int)<0)=false:=by simp
  have z2:decide ((n:Int)<=(an:Int))=false:=by simp;omega
  go_wp2_with (first
   |(refine zT rfl _ rfl _ hal ?_)
   |fail)
  generalize (w.alloc (.cells Z.toArray 165)).alloc (.cells Z.toArray 165)=w1 at*;obtain⟨T,hT⟩:∃T:Nat->Prop,T=fun j=>S j/\j≠w.heap.size/\j≠w.heap.size+1:=⟨_,rfl⟩
  obtain⟨hl1,hN1,hu1,hd1,hn1,hSl,hSN,-⟩:=HL.o;have hTS:∀j,T j->S j:=fun j h=>by rw[hT]at h;exact h.1
  have hTA:¬T w.heap.size:=fun h=>by rw[hT]at h;exact h.2.1 rfl
  have hTA':∀j,T j->j≠w.heap.size:=fun j h e=>hTA (e▸h);have hTB:¬T (w.heap.size+1):=fun h=>by rw[hT]at h;exact h.2.2 rfl
  have hTl:¬T l:=fun h=>hSl (hTS l h);have hTN:¬T 0:=fun h=>hSN (hTS _ h);rw[<-hT]at hd1;replace hn1:∀j,w1.heap.size<=j->T j:=fun j hj=>by rw[hT];exact hn1 j (by omega)
  have HT:=Y13 hTS hTA hTB hTl hTN hd1 hn1 hu1 hl1 hN1 hgA hgB hTA';have hl1lt:=hl1.lt;clear hT hTS hTA hTB hTl hTN hd1 hn1 hu1 hl1 hN1 hgA hgB hSl hSN hTA' hs1
  go_cut [7,8] (fun s7 s8 wx=>qQ T b F O P (base+an) w1 s7 s8 wx)
  case first=>
   have e1:IntKind.i64.wrap ((base:Int)+(an:Int))=((base+an:Nat):Int):=qxv _ (by omega);refine qZj (S:=fun W=>W.cell? ⟨l,0,none⟩=some (.pointer (some ⟨b,0,none⟩))/\W.cell? ⟨l,1,none⟩=some (.int .i64 (base:Int))) (by kernel_rfl) (⟨by rw[qYo];exact c0,by rw[qYo];exact c1⟩) (fun hHeld=>?_);refine Wl.i [0,1,2,3,4,5,6,7,8,9] ?_;iterate 10 refine Wl.t hHeld ?_
   refine Wl.o ?_;refine qZe (rs:=[10,14]) (by kernel_rfl) (by simp) ?_;refine qxb rfl (fun K hK=>?_) (qxb rfl (fun K hK=>?_) qxc)
   .go_simp
    refine(xu (HT.o.2.2.2.2.2.1.keep ((uur (fun _=>False) w1).drew) (fun _ _ h=>h)) (HT.o.2.2.2.2.2.2.1) (base+an) (by omega)).mono ?_;rintro e w7 ⟨z2,cd2,rfl,hz2,hcd2,hz2l,hd7,hu7⟩;have HZ2:=Y2 hz2 hcd2;clear hz2 hcd2;refine hK.o _ _ (⟨hu7.cellv hHeld.1 HT.o.2.2.2.1,hu7.cellv hHeld.2 HT.o.2.2.2.1⟩) (fun hHeld2=>?_);clear hK K;refine Wl.i [11,12,13] ?_;iterate 3 refine Wl.t hHeld2 ?_
    refine Wl.o ?_;refine Wl.r 14 (fun K hK=>?_);go_simp
    show K _ (w7.alloc (.cells (bkC zB).toArray 54));have hg8:=zc w7 (.cells (bkC zB).toArray 54) rfl;have hu8:Upd (fun _=>False) w7 (w7.alloc (.cells (bkC zB).toArray 54)):=(uur _ _).alloc _;have hw67:w1.heap.size<=w7.heap.size:=hu7.size;have hd8:=(hd7.but (qXv _)).keep hu8 (fun _ _ h=>h);have hU8:Upd T w1 (w7.alloc (.cells (bkC zB).toArray 54)):=((uur _ w1).drew.trans hu7).trans (hu8.mono (fun _ _ h=>h.elim));refine hK.o _ _ (⟨hu8.cellv hHeld2.1 (fun h=>h),hu8.cellv hHeld2.2 (fun h=>h)⟩) (fun hHeld3=>?_);clear hK K;generalize w7.heap.size=q at*;generalize w7.alloc (.cells (bkC zB).toArray 54)=w8 at*;refine Wl.r 15 (fun K hK=>?_);rw[if_pos (by rfl)];refine qZk _ _ _ rfl _ _ (List.toArray _) rfl rfl (by rw[zl _ hz2l];exact zD hg8 (by rw[zl _ zw];exact qXv _)) (by rw[zl _ hz2l];exact zF) (qYu (zv _)) ?_;simp only[Act.put,qXi];refine hK.o _ _ (⟨zy hHeld3.1 (by omega),zy hHeld3.2 (by omega)⟩) (fun hHeld4=>?_);clear hK K;refine Wl.r 16 (fun K hK=>?_);go_simp
    refine hK.o _ _ (hHeld4) (fun _=>?_);clear hK K;refine Wl.d ?_;clear hHeld4 e1;go_wp2_with fail
    go_meet
    case rel=>exact⟨q,z2,cd2,rfl,rfl,yn hg8 zw hz2l,hw67,HZ2.o.1,HZ2.o.2,hz2l,hd8.keep (zp w8 q 0 (bkC z2)) (fun j h e=>h.2 e),hU8.trans ((zp w8 q 0 (bkC z2)).mono (fun j _ e=>e▸HT.o.2.2.2.2.2.2.1 _ hw67))⟩
   .go_simp
    show K _ (w1.drew.alloc (.cells (bkC zB).toArray 54));have hg7:(w1.drew.alloc (.cells (bkC zB).toArray 54)).heap[w1.heap.size]?=some (.cells (bkC zB).toArray 54):=zc w1.drew _ rfl;have hu7a:Upd (fun _=>False) w1 (w1.drew.alloc (.cells (bkC zB).toArray 54)):=((uur _ w1).drew).alloc _;have hd7a:Dv (fun j=>T j/\j≠w1.heap.size) (w1.drew.alloc (.cells (bkC zB).toArray 54)) b F O P:=(HT.o.2.2.2.2.2.1.but (qXv _)).keep hu7a (fun _ _ h=>h);have hs7a:(w1.drew.alloc (.cells (bkC zB).toArray 54)).heap.size=w1.heap.size+1:=by simp
    refine hK.o _ _ (⟨hu7a.cellv c0 (fun h=>h),hu7a.cellv c1 (fun h=>h)⟩) (fun hHeld2=>?_);clear hK K;generalize w1.drew.alloc (.cells (bkC zB).toArray 54)=w7a at*;refine Wl.r 10 (fun K hK=>?_);go_simp
    refine(xu (hd7a) (fun j hj=>⟨HT.o.2.2.2.2.2.2.1 j (by omega),by omega⟩) (base+an) (by omega)).mono ?_;rintro e w7 ⟨z2,cd2,rfl,hz2,hcd2,hz2l,hd7,hu7⟩;have HZ2:=Y2 hz2 hcd2;clear hz2 hcd2;have hg8:=(hu7.block w1.heap.size (zd hg7) (fun h=>h.2 rfl)).trans hg7;refine hK.o _ _ (⟨hu7.cellv hHeld2.1 (fun h=>HT.o.2.2.2.1 h.1),hu7.cellv hHeld2.2 (fun h=>HT.o.2.2.2.1 h.1)⟩) (fun hHeld3=>?_);clear hK K;refine Wl.i [11,12,13] ?_;iterate 3 refine Wl.t hHeld3 ?_
    refine Wl.o ?_;refine Wl.r 15 (fun K hK=>?_);rw[if_pos (by rfl)];refine qZk _ _ _ rfl _ _ (List.toArray _) rfl rfl (by rw[zl _ hz2l];exact zD hg8 (by rw[zl _ zw];exact qXv _)) (by rw[zl _ hz2l];exact zF) (qYu (zv _)) ?_;simp only[Act.put,qXi];refine hK.o _ _ (⟨zy hHeld3.1 (by omega),zy hHeld3.2 (by omega)⟩) (fun hHeld4=>?_);clear hK K;refine Wl.r 16 (fun K hK=>?_);go_simp
    refine hK.o _ _ (hHeld4) (fun _=>?_);clear hK K;refine Wl.d ?_;clear hHeld4 e1;go_wp2_with fail
    go_meet
    case rel=>exact⟨w1.heap.size,z2,cd2,rfl,rfl,yn hg8 zw hz2l,qXv _,HZ2.o.1,HZ2.o.2,hz2l,hd7.keep (zp w7 w1.heap.size 0 (bkC z2)) (fun j h e=>h.2 e),((hu7a.mono (fun _ _ h=>h.elim)).trans (hu7.mono (fun j _ h=>h.1))).trans ((zp w7 w1.heap.size 0 (bkC z2)).mono (fun j _ e=>e▸HT.o.2.2.2.2.2.2.1 _ (qXv _)))⟩
  case rest=>
   obtain⟨q,v,cd2,rfl,rfl,hgq,hq,hv,hcd2,hvl,hdx,hux⟩:=hcut;have hgA:=(hux.block _ (zd HT.o.2.2.2.2.2.2.2.2.2.2.1) HT.o.2.1).trans HT.o.2.2.2.2.2.2.2.2.2.2.1;have hgB:=(hux.block _ (zd HT.o.2.2.2.2.2.2.2.2.2.2.2.1) HT.o.2.2.1).trans HT.o.2.2.2.2.2.2.2.2.2.2.2.1;have hlx:=HT.o.2.2.2.2.2.2.2.2.1.keep hux HT.o.2.2.2.1;have hNx:=HT.o.2.2.2.2.2.2.2.2.2.1.keep hux HT.o.2.2.2.2.1;have hUx:Upd S w wc:=(HT.o.2.2.2.2.2.2.2.1.mono (fun _ _ h=>h.elim)).trans (hux.mono (fun j _ h=>HT.o.1 j h));have hdT:Dv T wc b F O P.tail:=hdx.wide (fun j h=>h.1);have rq:=zg hgq;have c4':=hlx.c.2.2.2.2.1;have HQ:=Y9 hdT hUx hlx hNx hgA hgB hvl hv hcd2;have hqlt:=zd hgq;have hAlt:=zd hgA;have hBlt:=zd hgB;have hllx:=hlx.lt;have rB:=zg hgB;have tA:=zD (n:=13) hgA (by rw[HZZ.o.2.2.1];exact qXv _);clear hgq hq hv hcd2 hvl hdx hux hlx hNx hUx hdT hgA hgB c0 c1 c2 c4;have e0:cd2=0:=by rw[HQ.o.2.2.2.2.2.2.2.2,if_neg hf]
   have ez:v=curB F O (base+an):=by rw[HQ.o.2.2.2.2.2.2.2.1,if_neg hf]
   subst e0;have h0:v=zB:=ez.trans hz;have hq0:∀W,(Op.equalIn 10000 54 (.agg (bkC v).toArray) (.agg #[.int .u8 0,.int .u8 0,.int .u8 0,.int .u8 0,.int .u8 0,.int .u8 0,.int .u8 0,.int .u8 0,.int .u8 0,.int .u8 0,.int .u8 0,.int .u8 0,.int .u8 0,.int .u8 0,.int .u8 0,.int .u8 0,.int .u8 0,.int .u8 0,.int .u8 0,.int .u8 0,.int .u8 0,.int .u8 0,.int .u8 0,.int .u8 0,.int .u8 0,.int .u8 0,.int .u8 0,.int .u8 0,.int .u8 0,.int .u8 0,.int .u8 0,.int .u8 0,.int .u8 0,.int .u8 0,.int .u8 0,.int .u8 0,.int .u8 0,.int .u8 0,.int .u8 0,.int .u8 0,.int .u8 0,.int .u8 0,.int .u8 0,.int .u8 0,.int .u8 0,.int .u8 0,.int .u8 0,.int .u8 0,.int .u8 0,.int .u8 0,.int .u8 0,.int .u8 0,.int .u8 0,.int .u8 0,.int .u8 0,.int .u8 0,.int .u8 0,.int .u8 0,.int .u8 0,.int .u8 0,.int .u8 0,.int .u8 0,.int .u8 0,.int .u8 0])).run Tryz.prog W=.ok (v==zB) W:=tx v zB HQ.o.2.2.2.2.2.2.1 zw;have hb0:(v==zB)=true:=by simpa using h0
   have HD:Hid (Dv (fun j=>T j/\j≠w.heap.size) wc b F O P.tail/\Upd S w wc):=⟨(HQ.o.1).wide (fun j h=>⟨h,HT.o.2.2.2.2.2.2.2.2.2.2.2.2 j h⟩),HQ.o.2.1⟩
   clear h0 ez;go_wp2_with (first
    |(refine qZg rfl _ _ rfl _ _ rfl _ _ rq Tryz.underlying54 rfl (zt _ HQ.o.2.2.2.2.2.2.1) ?_)
    |(refine qZg rfl _ _ rfl _ _ rfl _ _ rB Tryz.underlying165 rfl HZZ.o.2.2.2.2.2.1 ?_)
    |(refine qZi rfl _ _ _ rfl _ _ Z.toArray rfl rfl (by rw[HZZ.o.2.2.1];exact tA) HZZ.o.2.2.2.1 HZZ.o.2.2.2.2.1 ?_)
    |fail)
   refine qYw (zn rfl _ _ w.heap.size 0 Z _ rfl (qYr _ _ _ _ (by rw[HZZ.o.2.1];exact tA)) Tryz.underlying165 rfl HZZ.o.2.2.2.2.2.1) rfl ?_;exact⟨rfl,HD.o.1.keep (zp _ w.heap.size 0 _) (fun j h e=>h.2 e)|>.wide (fun j h=>HT.o.1 j h.1),HD.o.2.trans ((zp _ w.heap.size 0 _).mono (fun j _ e=>e▸HAS.o))⟩
theorem SU{S:Nat->Prop}{w:World}{l b base n fi:Nat}{F:List Bk}{O:List (Nat×Bk)}(hl:LogF w l b base n fi)(hd:Dv S w b F O [])(hn:∀j,w.heap.size<=j->S j)(hSl:¬S l)(hN:Nib w)
  (hSN:¬S 0) (hbn:base+n<=F.length) (hz:∀i,i<n->curB F O (base+i)=zB):
  Calls Tryz.prog 83 #[.pointer (some ⟨l,0,none⟩)] w (Ut S w b F O 0):=by
 have hfl:=hd.good.fl;obtain⟨-,-,c2,-⟩:=hl.c;have H:=Y7 hl hd hn hSl hN hSN hz;clear hl hd hn hSl hN hSN hz;go_enter Tryz.func83,Tryz.ntmps83
 go_wp2
 go_step3
 go_wp2
 go_step3
 go_wp2
 go_loopg[4,5,15] n (fun gk s4 s5 s15 wr=>∃i:Nat,i+gk=n/\s15=.int .i64 i/\s5=.int .i64 0/\s4=.slice none 0 0/\Dv S wr b F O []/\Upd S w wr)
 case atStart=>exact⟨0,by omega,rfl,rfl,rfl,H.o.2.1,uur _ _⟩
 case round=>
  obtain⟨i,hi,rfl,rfl,rfl,hd,hU⟩:=hrel;obtain⟨hl,-,hn,hSl,hN,hSN,hz⟩:=H.o;by_cases hlt:i<n
  .have HG:=qqh (ST (hl.keep hU hSl) hd (fun j hj=>hn j (qXx hU.size hj)) hSl (hN.keep hU hSN) hSN hbn (by decide) hlt (hz i hlt));have HU:=qqh hU;have k1:(i:Int)<(n:Int):=by omega
   clear hl hd hn hSl hN hSN hz hU;go_wp2_with fail
   refine HG.o.mono ?_;rintro e w9 ⟨rfl,hd9,hU9⟩;have H9:=Y2 hd9 (HU.o.trans hU9);clear hd9 hU9 HG;generalize hZZ:[Value.int .i64 0,Value.int .i64 0,Value.int .i64 0,Value.int .i64 0,Value.int .i64 0,Value.int .i64 0,Value.int .i64 0,Value.int .i64 0,Value.int .i64 0,Value.int .i64 0,Value.int .i64 0,Value.int .i64 0,Value.int .i64 0]=Z at*;have hsz:Hid ((Tryz.prog.info? 165).map (·.size)=some Z.length/\Z.length=13/\∀u∈Z,u.oneCell'=true):=by subst hZZ;exact⟨XJ,rfl,by intro u hu;simp at hu;subst hu;rfl⟩
   replace hZZ:=qqh hZZ;go_wp2_with (first
    |(refine zk rfl _ _ _ rfl _ _ _ rfl rfl (by rw[hsz.out.2.1];rfl) hsz.out.1 hsz.out.2.2 ?_)
    |fail)
   obtain⟨hd9,hU9⟩:=H9.o;have hua:Upd (fun _=>False) w9 (w9.alloc (.cells Z.toArray 165)):=(uur _ _).alloc _;have hd10:=hd9.new hua;have hU10:=hU9.trans (hua.mono (fun _ _ h=>h.elim));generalize w9.alloc (.cells Z.toArray 165)=w10 at*;go_roundg (gk-1)
   case measure=>omega
   case rel=>exact⟨i+1,by omega,by go_num,rfl,rfl,hd10,hU10⟩
  .obtain rfl:i=n:=by omega
   have k1:¬((i:Int)<(i:Int)):=by omega
   have HE:=Y2 hd hU;clear hl hd hn hSl hN hSN hz hU;go_wp2_with fail
   try rw[qxr]
   go_ret2
   exact⟨rfl,HE.o.1,HE.o.2⟩
end Go.Proofs.YtfhfbpmlnjdfoaaGreatDoor
