/- The forms of r -/
import Derived.Test.YtpejdgiccaijfaaGreatDoorG06
import Derived.Test.YtpejdgiccaijfaaGreatDoorG08
import Derived.Test.YtpejdgiccaijfaaGreatDoorG09
set_option maxRecDepth 100000
set_option maxHeartbeats 4000000
namespace Go.Proofs.YtpejdgiccaijfaaGreatDoor
open Go Go.RowKit Tryz
variable{w:World}{k n base cov next g o:Nat}{W:List (Nat×Bk)}{xs:List Int}
theorem ve{P:Prop}(h:P:=by
 have hmf:=qqf;go_enter q1f,q2f
 go_wp2_with fail
 refine(xG).mono ?_;rintro e w1 ⟨rfl,rfl⟩;go_wp2
 obtain⟨h1,h2,h3,h4,h5,h6,h7⟩:=uU w (.cells #[.int .i64 n3f,.slice (some ⟨w.heap.size+1+1+1+1,0,none⟩) RR RR,.func (.func n5f) #[] #[],.func (.func n6f) #[] #[.pointer (some ⟨w.heap.size+1+1+1,0,none⟩)],.func (.func n7f) #[] #[]] n8f)
  (.cells (bndC d9f).toArray 207) (.cells #[.slice (some ⟨w.heap.size+1,0,none⟩) AS AS] 294) (.cells #[.func (.func 194) #[] #[.pointer (some ⟨w.heap.size+1+1,0,none⟩)]] 138) (.cells (ints (natsI d11f)).toArray 3)
 refine qYq (zq rfl _ _ w.heap.size 0 [.int .i64 n3f,.slice (some ⟨w.heap.size+1+1+1+1,0,none⟩) RR RR,.func (.func n5f) #[] #[],.func (.func n6f) #[] #[.pointer (some ⟨w.heap.size+1+1+1,0,none⟩)],.func (.func n7f) #[] #[]] _ rfl (zg h1) zeP rfl zeQ) rfl
  ⟨w.heap.size+1+1+1+1,w.heap.size+1+1+1,rfl,⟨zg h5,_,za h4 0,w.heap.size+1+1,w.heap.size+1,AS,rfl,za h3 0,zg h2⟩,Upd.below h7⟩):P:=h
theorem tf{P:Prop}(h:P:=by
 obtain⟨hs,v,hv,hB⟩:=hF;have hcz:(prog.info? n14f).map (·.size)=some cs.length:=by rw[hcs];exact AT
 have htell':∀W,Below w.heap.size w W->Calls prog n5f (#[.agg cs.toArray]++ #[]) W (zS W RR xs):=fun W _=>htell W;have hmay:∀W gl cc,RR<=cc->cc<=maxLen->Below w.heap.size w W->W.rangeAt gl 0 (ints xs)->Calls prog n6f (#[.slice (some ⟨gl,0,none⟩) RR cc]++ #[.pointer (some ⟨gt,0,none⟩)]) W fun e W'=>e=.returned (.bool (d16f xs))/\Below W.heap.size W W':=fun W gl cc hc hc2 hW hr=>
  zeR xs hxl hc hc2 ((uuo (S:=fun _=>False) hW).j3 hv id) (hB.below hW) hr
 cases hm:d16f xs with
 |false=>
  rw[hm]at hmay;exact(zeS (w:=w) n3f xs RR gs RR n5f n6f #[] #[.pointer (some ⟨gt,0,none⟩)] (.func (.func n7f) #[] #[]) rfl cs hcz (fun _ _=>rfl) (fun _ _=>rfl) htell' hmay).mono
   (fun e w' ⟨he,hb⟩=>⟨.inr ⟨hm,he⟩,hb⟩)
 |true=>
  rw[hm]at hmay;obtain⟨h0,hfit⟩:=zeT hxl hm;have e:numsL (numL d11f xs)=xs:=tU jR h0;rw[<-e]at htell' hmay;exact(zeU (w:=w) n3f de (numL d11f xs) hfit RR (by rw[rJ jR];rfl) de gs RR n5f n6f #[] #[.pointer (some ⟨gt,0,none⟩)] (.func (.func n7f) #[] #[]) rfl cs hcz (by rw[XF jR];exact hs) hN (fun _ _=>rfl) (fun _ _=>rfl) htell' hmay).mono
   (fun e w' ⟨he,hb⟩=>⟨.inl ⟨hm,he⟩,hb⟩)):P:=h
theorem wO{P:Prop}(h:P:=by
 have HN:=Y2 hN htell;have hcz:(prog.info? n14f).map (·.size)=some cs.length:=by rw[hcs];exact AT
 have HC:=qqh hcz;have hr:((w.alloc (.cells cs.toArray n14f)).alloc (.cells (bkC zB).toArray 60)).rangeAt w.heap.size 0 cs:=qYj (zg (zc w _ rfl)) _;clear hN htell hcz;go_enter zcn,zco
 go_wp2_with fail
 change Code.wp _ _ _ _ ((w.alloc (.cells cs.toArray n14f)).alloc (.cells (bkC zB).toArray 60))
 have hg:((w.alloc (.cells cs.toArray n14f)).alloc (.cells (bkC zB).toArray 60)).heap[w.heap.size+1]?=some (.cells (bkC zB).toArray 60):=zc _ _ oe;have hu:Upd (fun _=>False) w ((w.alloc (.cells cs.toArray n14f)).alloc (.cells (bkC zB).toArray 60)):=((uur _ w).alloc _).alloc _;generalize (w.alloc (.cells cs.toArray n14f)).alloc (.cells (bkC zB).toArray 60)=w2 at*;have hb2:Below w.heap.size w w2:=Upd.below hu;refine qZc (S:=fun W=>W.rangeAt w.heap.size 0 cs) kR oN (fun hHeld=>?_);refine Wl.l 1 (fun w h=>h) zcp HC.o hHeld ?_;refine Wl.r 0 (fun K hK=>?_);go_simp
 refine(zcq _).mono ?_;rintro e w3 ⟨gs,gt,rfl,hF,hb3⟩;have hb3':Below w2.heap.size w2 w3:=yy hb3;refine hK.o _ _ (Below.range hb3 hHeld) (fun hHeld2=>?_);clear hK K;refine Wl.r 2 (fun K hK=>?_);go_simp
 refine(zcr hF ((HN.o.1.keep hu id).below hb3') cs hcs xs hxl HN.o.2).mono ?_;rintro e w4 ⟨he,hb4⟩;have hb4':Below w2.heap.size w2 w4:=hb3'.trans (hb4.mono hb3'.size);have hg4:=(hb4'.block _ (zd hg)).trans hg;have hth:w4.there (w.heap.size+1) 0 64:=fun j hj=>by
  rw[za hg4,zf hg4];exact⟨by rw[qXy,qxe oY];rfl,rfl⟩
 obtain⟨y,cd,hy,hres,rfl⟩:∃(y:Bk) (cd:Int),y.length=64/\((d16f xs=true/\y=zcs xs/\cd=0)\/(d16f xs=false/\y=zB/\cd=10))/\e=.returned (.tuple #[.agg (bkC y).toArray,.int .i64 cd]):=by
  rcases he with⟨hm,rfl⟩|⟨hm,rfl⟩
  .exact ⟨_,0,zct hxl,.inl ⟨hm,rfl,rfl⟩,rfl⟩
  .exact ⟨_,10,zH,.inr ⟨hm,rfl,rfl⟩,rfl⟩
 have HR:=Y2 hy hres;clear he hy hres;have hst:w4.there (w.heap.size+1) 0 (bkC y).toArray.size:=by rw[zo _ HR.o.1];exact hth
 have hst2:w4.there (w.heap.size+1) 0 (bkC y).length:=by rw[zm,HR.o.1];exact hth
 have hsz2:(prog.info? 60).map (·.size)=some (bkC y).toArray.size:=by rw[zo _ HR.o.1];exact zM
 refine hK.o _ _ (Below.range hb4 hHeld2) (fun hHeld3=>?_);clear hK K;refine Wl.i [3,4] ?_;iterate 2 refine Wl.t hHeld3 ?_
 refine Wl.o ?_;have hU5:Below w.heap.size w (w4.setCells (w.heap.size+1) 0 (bkC y)):=zj (hb2.trans (hb4'.mono hu.size)) (zn w4 (w.heap.size+1) 0 _) (qXp _) (fun k e=>oM);refine Wl.r 5 (fun K hK=>?_);rw[if_pos oE];refine qZd _ _ _ rfl _ _ (List.toArray _) rfl rfl (hst) (hsz2) (qYo (zx _)) ?_;simp only[Act.put,qXe];refine hK.o _ _ ((zn w4 (w.heap.size+1) 0 (bkC y)).range hHeld3 oM) (fun hHeld4=>?_);clear hK K;refine Wl.r 6 (fun K hK=>?_);go_simp
 refine hK.o _ _ (hHeld4) (fun _=>?_);clear hK K;refine Wl.d ?_;have HE:=Y2 hU5 hst2;clear hst hst2 hsz2 hU5 hth hg4 hb4 hb4' hb3 hb3' hHeld hHeld2 hHeld3 hHeld4 hF hr hg hu hb2;go_wp2
 refine qYq (zp rfl _ _ (w.heap.size+1) 0 (bkC y) _ rfl (qYl _ _ _ _ HE.o.2) underlying60 rfl (zu _ HR.o.1)) rfl ⟨?_,HE.o.1⟩;rcases HR.o.2 with⟨hm,rfl,rfl⟩|⟨hm,rfl,rfl⟩
 .exact .inl ⟨hm,rfl⟩
 .exact .inr ⟨hm,rfl⟩):P:=h
def SG:List Nat:=[6,6,1,2,2,1,4]
def VC(gs gt:Nat):Value:=.agg #[.int .i64 2,.slice (some ⟨gs,0,none⟩) 7 7,.func (.func 349) #[] #[],.func (.func 350) #[] #[.pointer (some ⟨gt,0,none⟩)],.func (.func 351) #[] #[]]
def SH(w:World)(gs gt:Nat):Prop:=w.rangeAt gs 0 (ints (natsI SG))/\∃v,w.cell? ⟨gt,0,none⟩=some v/\Bnd w v bndR
theorem UU:(prog.info? 404).map (·.size)=some 5:=kR
theorem infoThR:(prog.info? 307).map (·.size)=some 7:=kR
namespace fFormR2
theorem q1f:type_of% @func276:= @func276
theorem q2f:type_of% @ntmps276:= @ntmps276
abbrev n3f:Nat:=2
abbrev RR:Nat:=7
abbrev n5f:Nat:=349
abbrev n6f:Nat:=350
abbrev n7f:Nat:=351
abbrev n8f:Nat:=404
abbrev d9f:= @bndR
abbrev AS:Nat:=7
abbrev d11f:= @SG
theorem zeP:type_of% @underlying404:= @underlying404
theorem zeQ:type_of% @UU:= @UU
end fFormR2
open fFormR2 in
theorem xV(w:World):Calls prog 276 #[] w fun e a=>∃gs b,e=.returned (VC gs b)/\SH a gs b/\Below w.heap.size w a:=ve
def sectR(xs:List Int):Bk:=sectB 2 (numL SG xs)
theorem tX{xs:List Int}(h:xs.length=7):(sectR xs).length=64:=vQ jJ
def XQ(w:World)(xs:List Int)(e:Ending)(w':World):Prop:=
 ((mayR xs=true/\e=.returned (.tuple #[.agg (bkC (sectR xs)).toArray,.int .i64 0]))\/(mayR xs=false/\e=.returned (.tuple #[.agg (bkC zB).toArray,.int .i64 10])))/\Below w.heap.size w w'
namespace fFormR2
abbrev n14f:Nat:=307
theorem AT:type_of% @infoThR:= @infoThR
abbrev d16f:= @mayR
theorem zeR:type_of% @rQ:= @rQ
theorem zeS:type_of% @UR:= @UR
theorem zeT:type_of% @ZC:= @ZC
theorem zeU:type_of% @XH:= @XH
end fFormR2
open fFormR2 in
theorem XR{w:World}{gs gt:Nat}(hF:SH w gs gt)(hN:Nib w)(cs:List Value)(hcs:cs.length=7)(xs:List Int)(hxl:xs.length=7)
  (htell:∀W,Calls prog 349 #[.agg cs.toArray] W (zS W 7 xs)):
  Calls prog 426 #[VC gs gt,.agg cs.toArray] w (XQ w xs):=tf
namespace fFormR2
theorem zcn:type_of% @func391:= @func391
theorem zco:type_of% @ntmps391:= @ntmps391
theorem zcp:type_of% @underlying307:= @underlying307
theorem zcq:type_of% @xV:= @xV
theorem zcr:type_of% @XR:= @XR
abbrev zcs:= @sectR
theorem zct:type_of% @tX:= @tX
end fFormR2
open fFormR2 in
theorem SI(hN:Nib w)(cs:List Value)(hcs:cs.length=7)(xs:List Int)(hxl:xs.length=7)
  (htell:∀W,Calls prog 349 #[.agg cs.toArray] W (zS W 7 xs)):
  Calls prog 391 #[.agg cs.toArray] w (XQ w xs):=wO
def UV:List Nat:=[6,2,2,1,2,2,1,4,2,2,1,4,2,2,1,4,2,2,1,4]
def VD(gs gt:Nat):Value:=.agg #[.int .i64 3,.slice (some ⟨gs,0,none⟩) 20 20,.func (.func 342) #[] #[],.func (.func 344) #[] #[.pointer (some ⟨gt,0,none⟩)],.func (.func 346) #[] #[]]
def SJ(w:World)(gs gt:Nat):Prop:=w.rangeAt gs 0 (ints (natsI UV))/\∃v,w.cell? ⟨gt,0,none⟩=some v/\Bnd w v bndP
theorem UW:(prog.info? 393).map (·.size)=some 5:=kR
theorem wP:(prog.info? 297).map (·.size)=some 20:=kR
namespace fFormP2
theorem q1f:type_of% @func269:= @func269
theorem q2f:type_of% @ntmps269:= @ntmps269
abbrev n3f:Nat:=3
abbrev RR:Nat:=20
abbrev n5f:Nat:=342
abbrev n6f:Nat:=344
abbrev n7f:Nat:=346
abbrev n8f:Nat:=393
abbrev d9f:= @bndP
abbrev AS:Nat:=4
abbrev d11f:= @UV
theorem zeP:type_of% @underlying393:= @underlying393
theorem zeQ:type_of% @UW:= @UW
end fFormP2
open fFormP2 in
theorem vS(w:World):Calls prog 269 #[] w fun e a=>∃gs b,e=.returned (VD gs b)/\SJ a gs b/\Below w.heap.size w a:=ve
def sectP(xs:List Int):Bk:=sectB 3 (numL UV xs)
theorem wv{xs:List Int}(h:xs.length=20):(sectP xs).length=64:=vQ jJ
def XS(w:World)(xs:List Int)(e:Ending)(w':World):Prop:=
 ((mayP xs=true/\e=.returned (.tuple #[.agg (bkC (sectP xs)).toArray,.int .i64 0]))\/(mayP xs=false/\e=.returned (.tuple #[.agg (bkC zB).toArray,.int .i64 10])))/\Below w.heap.size w w'
namespace fFormP2
abbrev n14f:Nat:=297
theorem AT:type_of% @wP:= @wP
abbrev d16f:= @mayP
theorem zeR:type_of% @rR:= @rR
theorem zeS:type_of% @US:= @US
theorem zeT:type_of% @tW:= @tW
theorem zeU:type_of% @XI:= @XI
end fFormP2
open fFormP2 in
theorem XT{w:World}{gs gt:Nat}(hF:SJ w gs gt)(hN:Nib w)(cs:List Value)(hcs:cs.length=20)(xs:List Int)(hxl:xs.length=20)
  (htell:∀W,Calls prog 342 #[.agg cs.toArray] W (zS W 20 xs)):
  Calls prog 268 #[VD gs gt,.agg cs.toArray] w (XS w xs):=tf
namespace fFormP2
theorem zcn:type_of% @func195:= @func195
theorem zco:type_of% @ntmps195:= @ntmps195
theorem zcp:type_of% @underlying297:= @underlying297
theorem zcq:type_of% @vS:= @vS
theorem zcr:type_of% @XT:= @XT
abbrev zcs:= @sectP
theorem zct:type_of% @wv:= @wv
end fFormP2
open fFormP2 in
theorem XU(hN:Nib w)(cs:List Value)(hcs:cs.length=20)(xs:List Int)(hxl:xs.length=20)
  (htell:∀W,Calls prog 342 #[.agg cs.toArray] W (zS W 20 xs)):
  Calls prog 195 #[.agg cs.toArray] w (XS w xs):=wO
abbrev recC(a0 a1 a2 a3 a4:Int)(d:Bool)(a6:Int):List Value:=[.int .i64 a0,.int .i64 a1,.int .i64 a2,.int .i64 a3,.int .i64 a4,.bool d,.int .i64 a6]
abbrev recX(a0 a1 a2 a3 a4:Int)(d:Bool)(a6:Int):List Int:=[a0,a1,a2,a3,a4,(bitN d:Int),a6]
theorem zeV(a0 a1 a2 a3 a4:Int)(d:Bool)(q:Int)(w:World):Calls prog 349 #[.agg (recC a0 a1 a2 a3 a4 d q).toArray] w (zS w 7 (recX a0 a1 a2 a3 a4 d q)):=by
 obtain⟨a,hL⟩:=qqe ((recC a0 a1 a2 a3 a4 d q).toArray);have b:=zc w (.cells a 307) rfl;have A:(w.alloc (.cells a 307)).cell? ⟨w.heap.size,0,none⟩=some (.int .i64 a0):=(za b 0).trans jc;have c1:(w.alloc (.cells a 307)).cell? ⟨w.heap.size,1,none⟩=some (.int .i64 a1):=(za b 1).trans jc;have c2:(w.alloc (.cells a 307)).cell? ⟨w.heap.size,2,none⟩=some (.int .i64 a2):=(za b 2).trans jc;have D:(w.alloc (.cells a 307)).cell? ⟨w.heap.size,3,none⟩=some (.int .i64 a3):=(za b 3).trans jc;have E:(w.alloc (.cells a 307)).cell? ⟨w.heap.size,4,none⟩=some (.int .i64 a4):=(za b 4).trans jc;have F:(w.alloc (.cells a 307)).cell? ⟨w.heap.size,5,none⟩=some (.bool d):=(za b 5).trans jc;have G:(w.alloc (.cells a 307)).cell? ⟨w.heap.size,6,none⟩=some (.int .i64 q):=(za b 6).trans jc;rw[<-hL];have H:Below w.heap.size w (w.alloc (.cells a 307)):=(qxl _ _).alloc (qXp _) _;have J:=qqh H;clear b hL H;go_enter func349,ntmps349
 go_wp2
 generalize w.alloc (.cells a 307)=w1 at*;obtain⟨m,s⟩:=qqe (w.heap.size);rw[<-s]at A c1 c2 D E F G⊢;have O:=qqh s;clear s;refine qZc (S:=fun W=>W.cell? ⟨m,0,none⟩=some (.int .i64 a0)/\W.cell? ⟨m,1,none⟩=some (.int .i64 a1)/\W.cell? ⟨m,2,none⟩=some (.int .i64 a2)/\W.cell? ⟨m,3,none⟩=some (.int .i64 a3)/\W.cell? ⟨m,4,none⟩=some (.int .i64 a4)/\W.cell? ⟨m,5,none⟩=some (.bool d)/\W.cell? ⟨m,6,none⟩=some (.int .i64 q)) kR (by(simp only[qYi]);exact⟨A,c1,c2,D,E,F,G⟩) (fun v=>?_);refine Wl.i [0,1,2,3,4,5,6,7,8,9,10,11,13,14] ?_;iterate 14 refine Wl.t v ?_
 refine Wl.o ?_;refine Wl.r 12 (fun K j=>?_);go_simp
 refine(UP d _).mono ?_;rintro e N ⟨rfl,L⟩;rw[<-L];clear L N;refine j.o _ _ (v) (fun p=>?_);clear j K;refine Wl.r 15 (fun K j=>?_);go_simp
 refine j.o _ _ (⟨zl p.1 _,zl p.2.1 _,zl p.2.2.1 _,zl p.2.2.2.1 _,zl p.2.2.2.2.1 _,zl p.2.2.2.2.2.1 _,zl p.2.2.2.2.2.2 _⟩) (fun M=>?_);clear j K;refine Wl.r 16 (fun K j=>?_);go_simp
 refine j.o _ _ (M) (fun Q=>?_);clear j K;refine Wl.d ?_;clear v p M;go_wp2
 go_ret
 refine⟨w1.heap.size,7,rfl,qXp _,by unfold maxLen;omega,zg (zc w1.drew _ rfl),?_⟩;exact(zP J.o 1).alloc J.o.size _
attribute [local go_sem↓] Yq Vx rT Yr Go.wp_at_zero Go.wp_at_succ
theorem zbN{S:Nat->Prop}{j d:Nat}(h:Jn S w j d base n cov next W):
  Calls prog 311 #[.pointer (some ⟨j,0,none⟩)] w fun e a=>e=.returned (.int .i64 ((n:Int)-((next:Int)-1-(cov:Int))))/\Upd (fun _=>False) w a:=by
 obtain⟨v,h,-⟩:=h;obtain⟨-,-,c2,A,D,-⟩:=h.c;obtain⟨-,-,b,p,q,s,-⟩:=h.good;have q1:IntKind.i64.wrap ((next:Int)-1)=(next:Int)-1:=qxu _ oM;have q2:IntKind.i64.wrap ((next:Int)-1-(cov:Int))=(next:Int)-1-(cov:Int):=qxu _ oM;have E:IntKind.i64.wrap ((n:Int)-((next:Int)-1-(cov:Int)))=(n:Int)-((next:Int)-1-(cov:Int)):=qxu _ oM;clear h b p q s;go_enter func311,ntmps311
 go_wp2
 go_quiet(fail)
 go_wp2
 go_ret
 exact⟨rfl,(uur _ _).drewN nq⟩
theorem vr{i:Nat}{v u:Value}(a:w.cell? ⟨g,i,none⟩=some v)(b:¬k=i):(w.setCell ⟨g,k,none⟩ u).cell? ⟨g,i,none⟩=some v:=by
 rw[World.cell?_setCell_other _ _ _ _ (fun e=>b (congrArg Addr.off e)),a]
abbrev jaddX(next n:Nat)(op block slot:Int)(d:Bool)(sum:Int):List Int:=recX (next:Int) (((next-1)/n:Nat):Int) op block slot d sum
theorem JnGood.add(h:JnGood base n cov next W)(j:next<=cov+n)(p:next<=1099511627776){y:Bk}(hy:y.length=64):JnGood base n cov (next+1) (W++[(next,y)]):=
 ⟨fun a b=>by rcases qzm.1 b with h1|h1;exact h.w64 a h1;simp at h1;subst h1;exact hy,
  fun a b=>by rcases qzm.1 b with h1|h1;have:=h.lt a h1;omega;simp at h1;subst h1;simp,
  h.n1,by have:=h.wl;simp;omega,oM,oM,h.bs⟩
def AU(S:Nat->Prop)(w:World)(j d base n cov next:Nat)(W:List (Nat×Bk))(y:Bk)(e:Ending)(w':World):Prop:=
 e=.returned (.tuple #[.int .i64 (next:Int),.int .i64 0])/\Jn S w' j d base n cov (next+1) (W++[(next,y)])/\Upd S w w'
theorem Zcg10{P:Prop}(h:P:=by
  go_simp
  refine a.o _ _ ((by(go_split_ands;(simp only[qYk,qYi]at*);((repeat' constructor)<;>first|assumption|(apply zl;assumption)|(refine zv ?_ ?_<;>assumption)|(refine zC ?_ ?_<;>assumption)|(apply qYj;assumption)|(apply qYn;assumption))))) (fun aA=>?_);clear a K;refine Wl.r 12 (fun K a=>?_);refine zV rfl _ _ _ rfl rfl rfl aN ?_;refine a.o _ _ (⟨az,aR⟩) (fun a7=>?_);clear a K;refine Wl.i [13,14] ?_;iterate 2 refine Wl.t a7 ?_
  refine Wl.o ?_;refine Wl.r 15 (fun K a=>?_);go_simp
  refine a.o _ _ (⟨vr a7.1 de,zC a7.2 bz⟩) (fun _=>?_);clear a K;refine Wl.d ?_;clear ae aA a7 Z b3 z5 aj aQ aB bt b5 b6 bu bv az aR bA bB aN b4 a6;obtain⟨q,b,s,p,Q,N,O,T,ag⟩:=aS.o;have aC:(W++[(next,y)]).length=W.length+1:=oe;rw[aC]at p q;obtain⟨u,U⟩:∃u:Value,u=.slice aO (W.length+1) aP:=⟨_,rfl⟩
  rw[<-U]at p q;obtain⟨D,a8⟩:=qqe (ax.setCell ⟨j,5,none⟩ (.slice aO (W.length+1) aP));rw[<-a8];have E:Upd (fun k=>k=j) ax D:=by rw[a8];exact zi _ _ _ _
  have F:D.heap[j]?=some (.cells #[.pointer (some ⟨d,0,none⟩),.int .i64 base,.int .i64 n,.int .i64 cov,.int .i64 next,u] 319 (0,0)):=by rw[a8,U];exact(zh Q 5 _).trans oe
  have c0:D.cell? ⟨j,4,none⟩=some (.int .i64 (next:Int)):=za F 4;have z4:=zf F 4;have ak:¬m=j:=fun e=>av e.symm;have aD:=(E.block m (qXs (zd O) (qXr b.size s.size)) ak).trans ((s.block m (qXs (zd O) b.size) (fun e=>by have:=T m e;have:=ad.o.2.2.2;omega)).trans (b.j4 O));have c3:(D.setCell ⟨j,4,none⟩ (.int .i64 ((next:Int)+1))).cell? ⟨m,0,none⟩=some (.int .i64 (next:Int)):=zv (za aD 0) (fun e=>ak e.symm);have aV:IntKind.i64.wrap ((next:Int)+1)=(next:Int)+1:=qxu _ oM;have b8:=Y5 p q E F U;clear q b s p Q N O T ag aC U a8 E F aD ak;go_wp2
  go_ret2
  obtain⟨p,q,E,F,U⟩:=b8.o;obtain⟨-,b,s,-,-,N,-,T,ag⟩:=aS.o;obtain⟨h,v,G,-⟩:=V.o;have am:Upd S w af:=((ad.o.2.2.1.mono fE).trans (M.o.2.2.1.mono (fun k _ e=>G k (by rw[e,ad.o.2.2.2];exact qXp _)))).trans (N.mono fE);have b9:Upd S w ax:=am.trans ((b.mono fE).trans (s.mono (fun k _ A=>v k (.inr A))));have an:u.ownBlock≠some j:=fun e=>by
   rcases q with h1|⟨g,h1,ba⟩
   .exact h.wb (by rw[<-h1];exact e)
   .rw [h1]at e;cases e;have:=zd h.str;have:=am.size;have:=b.size;omega
  have aE:Upd (fun k=>k=j) D (D.setCell ⟨j,4,none⟩ (.int .i64 ((next:Int)+1))):=zi _ _ _ _;have bb:sectR (jaddX next n op H slot J L)=y:=by rw[M.o.2.2.2.2.2.1,aW.out]
  rw[bb];refine⟨rfl,⟨u,⟨(zh F 4 _).trans oe,?_,an,h.good.add V.o.2.2.2.2.2.1 aT M.o.2.2.2.2.2.2⟩,?_⟩,b9.trans ((E.trans aE).mono (fun k _ e=>e▸v j (.inl rfl)))⟩
  .rw [qyz];exact(p.kM E an).kM aE an
  .rintro k (rfl|A)
   .exact v _ (.inl rfl)
   .rcases q with h1|⟨g,h1,ba⟩
    .exact v _ (.inr (by rw[<-h1];exact A))
    .rw [h1]at A;cases A;exact G _ (by have:=am.size;have:=b.size;omega)):P:=h
theorem zgv{S:Nat->Prop}{j d:Nat}(h:Jn S w j d base n cov next W)(G:∀k,w.heap.size<=k->S k)(aa:Nib w)(ao:¬S 0)(ap:next<=cov+n)(aT:next<=1099511627776)
  (a0 a1 op H slot:Int) (J:Bool) (L:Int) (ah:mayR (jaddX next n op H slot J L)=true):
  Calls prog 322 #[.pointer (some ⟨j,0,none⟩),.agg (recC a0 a1 op H slot J L).toArray] w (AU S w j d base n cov next W (sectR (jaddX next n op H slot J L))):=by
 obtain⟨aF,h,v⟩:=h;have ay:=h.good;obtain⟨w1,aG⟩:=qqe (w.alloc (.cells (recC a0 a1 op H slot J L).toArray 307));have ab:=qqu aG;have ai:=qqg aG;have bc:=qqh (zbN (S:=jnS j aF) ⟨aF,h.new ab,fun _ h=>h⟩);have c4:((n:Int)-((next:Int)-1-(cov:Int))==0)=false:=by have:=ay.wl;simp;omega
 have c5:¬(n:Int)-((next:Int)-1-(cov:Int))=0:=by have:=ay.wl;omega
 have az:¬1099511627776<(next:Int):=oM;have c6:=ay.n1;have c7:1<=next:=by have:=ay.wl;omega
 have V:=Y10 h v G aa ao ap aT ah ab ai;have bC:=qqh aG;clear h v G aa ao ap ah ab ai aG ay;go_enter func322,ntmps322
 go_wp2_with fail
 rw[<-bC.o];refine bc.out.mono ?_;rintro e aq ⟨rfl,aU⟩;obtain⟨h,v,G,aa,ao,ap,-,ah,ab,ai⟩:=V.o;have ar:=ab.trans aU;have h2:=h.new ar;have X:=aU.j4 ai;obtain⟨-,-,c2,-,aj,-⟩:=h2.c;obtain⟨m,au⟩:=qqe (w.heap.size);have av:¬j=m:=by have:=zd h.str;omega
 rw[<-au]at X;have bD:aq.cell? ⟨m,0,none⟩=some (.int .i64 a0):=za X 0;have bE:aq.cell? ⟨m,1,none⟩=some (.int .i64 a1):=za X 1;have bF:=zf X 0;have bG:=zf X 1;have ad:=Y4 h2 X ar au;have aV:IntKind.i64.wrap ((next:Int)-1)=(next:Int)-1:=qxu _ oM;obtain⟨Y,aH⟩:=qqe ((next-1)/n);have bH:Y<=next-1:=by rw[aH];exact Nat.div_le_self _ _
 have bI:IntKind.i64.wrap (((next:Int)-1).tdiv (n:Int))=(Y:Int):=by
  rw[show(next:Int)-1=((next-1:Nat):Int) by omega,<-Int.ofNat_tdiv,<-aH];exact qxu _ oM
 have bJ:¬n=0:=oM;have aI:=zh X 0 (.int .i64 (next:Int));have bK:(aq.setCell ⟨m,0,none⟩ (.int .i64 (next:Int))).cell? ⟨m,1,none⟩=some (.int .i64 a1):=za aI 1;have bL:=zf aI 1;have aW:=qqh aH;have bd:=zi aq m 0 (.int .i64 (next:Int));have be:=Y2 aI bd;rw[<-au];clear aH bH aI bd;clear h v G aa ao ap ah ab ai ar h2 X aU au bc;go_upto_region 7 with fail
 refine qZc (S:=fun W=>W.cell? ⟨j,2,none⟩=some (.int .i64 (n:Int))/\W.cell? ⟨j,4,none⟩=some (.int .i64 (next:Int))) kR (by(simp only[qYi]);exact⟨c2,aj⟩) (fun Z=>?_);refine Wl.i [0,1,2,3,4,5,6,7,8,9,10,11,12,13,14] ?_;iterate 15 refine Wl.t Z ?_
 refine Wl.o ?_;refine Wl.r 15 (fun K a=>?_);go_simp
 refine a.o _ _ (⟨zv Z.1 (fun e=>av e.symm),zv Z.2 (fun e=>av e.symm)⟩) (fun ae=>?_);clear a K;refine Wl.i [16] (Wl.t ae (Wl.o ?_));refine Wl.r 17 (fun K a=>?_);go_simp
 refine a.o _ _ (⟨zv ae.1 (fun e=>av e.symm),zv ae.2 (fun e=>av e.symm)⟩) (fun aA=>?_);clear a K;refine Wl.d ?_;clear Z ae aA c2 aj bD bE bF bG aV bI bJ bK bL;obtain⟨aX,aJ⟩:=qqe (((aq.setCell ⟨m,0,none⟩ (.int .i64 (next:Int))).setCell ⟨m,1,none⟩ (.int .i64 (Y:Int))).drew);rw[<-aJ];have aK:Upd (fun k=>k=m) aq aX:=by rw[aJ];exact(be.o.2.trans (zi _ m 1 _)).drew
 have aY:aX.heap[m]?=some (.cells (recC (next:Int) (Y:Int) op H slot J L).toArray 307 (0,0)):=by
  rw[aJ];exact(((uur (fun _=>False) _).drew).j4 (zh be.o.1 1 (.int .i64 (Y:Int)))).trans oe
 obtain⟨h,v,G,aa,ao,ap,-,ah,ab,ai⟩:=V.o;obtain⟨h2,X,ar,au⟩:=ad.o;have aZ:∀k,jnS j aF k->¬k=m:=fun k A e=>by have:=h.slt k A;omega
 have bf:=h2.keep aK aZ;have bg:Nib aX:=(aa.keep ar id).keep aK (fun e=>by have:=aa.lt;omega);obtain⟨y,hy⟩:=qqe (sectR (recX (next:Int) (Y:Int) op H slot J L));have a6:y.length=64:=by rw[hy];exact tX rfl
 have bM:=qqh (SI bg (recC (next:Int) (Y:Int) op H slot J L) rfl (recX (next:Int) (Y:Int) op H slot J L) rfl (fun W=>zeV _ _ _ _ _ _ _ W));have bh:mayR (recX (next:Int) (Y:Int) op H slot J L)=true:=by rw[aW.out];exact ah
 have bi:=zg aY;have M:=Y7 bf aY aK aZ bh hy a6;clear h v G aa ao ap ah ab ai h2 X ar au aZ bf bg bh hy aJ aK aY;go_wp2_with (first
  |(refine qYz rfl _ _ rfl _ _ rfl _ _ bi underlying307 rfl (by rw[show(recC (next:Int) (Y:Int) op H slot J L).length=7 from rfl];exact infoThR) ?_)
  |fail)
 refine bM.o.mono ?_;rintro e b0 ⟨aL,bj⟩;obtain rfl:e=.returned (.tuple #[.agg (bkC y).toArray,.int .i64 0]):=by
  rcases aL with⟨-,aL⟩|⟨bn,-⟩
  .rw [aL,M.o.2.2.2.2.2.1]
  .rw [M.o.2.2.2.2.1]at bn;cases bn
 have b1:=qqb bj;obtain⟨af,aM⟩:=qqe (b0.alloc (.cells (bkC y).toArray 60));have bp:=qqu aM;have bq:=qqg aM;have N:=b1.trans bp;have b2:=M.o.1.new N;have a6:=M.o.2.2.2.2.2.2;have bN:=qqh (zu y a6);have bO:=qqh (zx y);have bP:Hid ((bkC y).length=64):=by show _=_;rw[zm,a6]
 obtain⟨i,z,bQ,bR,bS,bT,bU⟩:=wi;have b:Upd (fun _=>False) af (af.alloc (.cells (wrC (next:Int) y).toArray 365)).drew:=((uur _ _).alloc _).drew;have aw:=b2.new b;have br:Rd (af.alloc (.cells (wrC (next:Int) y).toArray 365)).drew 65 (.slice (some ⟨af.heap.size,0,none⟩) 1 1) 1 (wrC (next:Int) y):=
  Rd.keep (Rd.fresh af (wrC (next:Int) y) 365 1 (by rw[wrC_len,a6]) oj) ((uur (fun _=>False) _).drew) (fun _ _ h=>h)
 have bV:W.length<=1024:=by have:=V.o.1.good;have:=this.wl;have:=V.o.2.2.2.2.2.1;omega
 obtain⟨c8,ax,aN,p,s,q⟩:=xh 317 317 i z 72 underlying317 bQ bR bT bU bS de aw.ws br (uM (next:Int) y) oj oM;rw[<-Xq]at p;have bs:W.length+1=(W++[(next,y)]).length:=oe;rw[bs]at p;obtain⟨aO,aP,rfl⟩:=p.rd.j6;have Q:=(s.block j (zd aw.str) (fun e=>aw.wb e)).trans aw.str;have b3:=za Q 5;have z5:=zf Q 5;have b4:=za Q 4;simp at b4 b3;obtain⟨-,-,-,-,aj,aQ⟩:=b2.c;have O:=N.j4 M.o.2.1;have aB:=zg bq;have bt:=QE (next:Int) y a6;have b5:=underlying60;have b6:=zu y a6;have bu:(bkC y).length=64:=by rw[zm,a6]
 have bv:=zx y;obtain⟨bx,b7⟩:=qqe (b0.heap.size);rw[<-b7]at aB bq;have T:∀g,aF.ownBlock=some g->g<w.heap.size:=fun g bW=>V.o.1.ws.lt bW;have bX:=ad.o.2.2.2;have ag:w.heap.size<b0.heap.size:=by
  have h1:=zd M.o.2.1;have h2:=b1.size;omega
 have az:=s.j3 (zl aj _) (fun e=>aw.wb e);have aR:=s.range (qYj aB _) (fun e=>by have:=T _ e;omega);have bz:¬j=bx:=by have:=zd V.o.1.str;omega
 have bA:=zl aQ (.cells (wrC (next:Int) y).toArray 365);have bB:=World.new_ne af _ aQ;have aS:=Y9 q b s p Q N O T ag;have bY:=qqh aM;have bZ:=qqh b7;clear q b s p Q N O T ag aw br bj aL b1 bp b2 aM bi bs bX b7 bV;go_wp2_with (first
  |(refine zk rfl _ _ _ rfl _ _ _ rfl rfl (by rw[bP.out];rfl) bN.out bO.out ?_)
  |fail)
 rw[<-bY.o,<-bZ.o];refine qZc (S:=fun W=>W.cell? ⟨j,4,none⟩=some (.int .i64 (next:Int))/\W.rangeAt bx 0 (bkC y)) kR (⟨by rw[qYi];exact aj,by rw[qYk];exact aB⟩) (fun Z=>?_);refine Wl.i [0,1,2,3,5,6,7,8] ?_;iterate 8 refine Wl.t Z ?_
 refine Wl.o ?_;refine Wl.l 9 (fun w h=>h.2) b5 b6 Z ?_;refine Wl.i [10] (Wl.t Z (Wl.o ?_));refine qYx (rs:=[4,11]) kR oe ?_;refine qxb rfl (fun K a=>?_) (qxb rfl (fun K a=>?_) qxc)
 .go_simp
  refine a.o _ _ ((by(go_split_ands;(simp only[qYk,qYi]at*);((repeat' constructor)<;>first|assumption|(apply zl;assumption)|(refine zv ?_ ?_<;>assumption)|(refine zC ?_ ?_<;>assumption)|(apply qYj;assumption)|(apply qYn;assumption))))) (fun ae=>?_);clear a K;refine Wl.r 11 (fun K a=>?_);exact Zcg10
 .go_simp
  refine a.o _ _ ((by(go_split_ands;(simp only[qYk,qYi]at*);((repeat' constructor)<;>first|assumption|(apply zl;assumption)|(refine zv ?_ ?_<;>assumption)|(refine zC ?_ ?_<;>assumption)|(apply qYj;assumption)|(apply qYn;assumption))))) (fun ae=>?_);clear a K;refine Wl.r 4 (fun K a=>?_);exact Zcg10
def needN(n:Nat):Nat:=(n-1)/4+1
def partE(E:List Ent)(k:Nat):List Ent:=(E.drop (4*k)).take 4
def padE(l:List Ent):List Ent:=l++List.replicate (4-l.length) Ent.none
def pageXs(seq need:Nat)(E:List Ent)(k:Nat):List Int:=natsI (pgN seq k need (partE E k).length (padE (partE E k)))
def yj(seq:Nat)(E:List Ent)(k:Nat):List Bk:=(List.range k).map fun i=>sectP (pageXs seq (needN E.length) E i)
def pagesB(seq:Nat)(E:List Ent):List Bk:=yj seq E (needN E.length)
def XV(x:Ent):Prop:=x.b<=4095/\x.s<=1023/\x.m<=4294967295
theorem qS(E:List Ent)(k:Nat):(partE E k).length<=4:=by simp[partE];omega
theorem qT{l:List Ent}(h:l.length<=4):(padE l).length=4:=by simp[padE];omega
theorem QG(L:List Ent):(L.flatMap entN).length=L.length*4:=by
 induction L with
 |nil=>rfl
 |cons x L a=>rw[qyf,qyz,a,qza,show(entN x).length=4 from rfl];omega
theorem xe(seq a:Nat)(E:List Ent)(k:Nat):(pageXs seq a E k).length=20:=by
 have b:=qT (qS E k);have:((padE (partE E k)).flatMap entN).length=16:=by rw[QG,b]
 simp[pageXs,natsI,pgN,this]
theorem ZG(seq no of a:Nat)(L:List Ent){i:Nat}(hi:i<L.length):rowI (natsI (pgN seq no of a L)) i=natsI (entN (L.getD i Ent.none)):=by
 have h:∀(L:List Ent) (i:Nat),i<L.length->((natsI (L.flatMap entN)).drop (4*i)).take 4=natsI (entN (L.getD i Ent.none)):=by
  intro L
  induction L with
  |nil=>intro i h;simp at h
  |cons x L b=>
   intro i hi;cases i with
   |zero=>rfl
   |succ i=>
    have e:natsI ((x::L).flatMap entN)=natsI (entN x)++natsI (L.flatMap entN):=by simp[natsI]
    rw[e,show 4*(i+1)=(natsI (entN x)).length+4*i by simp[natsI,entN];omega,List.drop_length_add_append];simpa using b i oz
 rw[<-h L i hi];simp only[rowI];rw[<-List.drop_drop];rfl
theorem tY{seq:Nat}{E:List Ent}(v:seq<=1099511627776)(b:∀x∈E,XV x)(A:needN E.length<=256)(D:k<needN E.length):mayP (pageXs seq (needN E.length) E k)=true:=by
 have j:=qS E k;have F:=qT j;simp only[mayP,qxo,decide_eq_true_eq];refine⟨⟨?_,?_⟩,?_⟩
 .simp [withinB,bndP,pageXs,natsI,pgN,inB];omega
 .simp [pageXs,natsI,pgN];omega
 .unfold entsB;rw[qxv];intro i p;have G:i<4:=by simpa using p
  unfold entB;have q:(pageXs seq (needN E.length) E k).getD 3 0=((partE E k).length:Int):=by simp[pageXs,natsI,pgN]
  rw[q];unfold pageXs;rw[ZG _ _ _ _ _ oM];split
  .rename_i hlt
   have a:i<(partE E k).length:=oM;have e:(padE (partE E k)).getD i Ent.none=(partE E k)[i]:=by
    simp[padE,List.getD_eq_getElem?_getD,List.getElem?_append_left a,a]
   rw[e];have s:(partE E k)[i]∈E:=List.mem_of_mem_drop (List.mem_of_mem_take (qyv a));obtain⟨a1,a2,a3⟩:=b _ s;generalize (partE E k)[i]=x at*;simp[withinB,bndE,natsI,entN,inB];have:bitN x.d<=1:=by unfold bitN;split<;>omega
   omega
  .rename_i hge
   have e:(padE (partE E k)).getD i Ent.none=Ent.none:=by
    simp only[padE,qyg];rw[qyi oM,qyo];split<;>rfl
   rw[e];simp[natsI,entN,Ent.none,bitN]
theorem th(seq:Nat)(E:List Ent)(k:Nat):yj seq E (k+1)=yj seq E k++[sectP (pageXs seq (needN E.length) E k)]:=by simp[yj,List.range_succ]
theorem xW(seq:Nat)(E:List Ent)(k:Nat):(yj seq E k).length=k:=by simp[yj]
theorem VE(seq:Nat)(E:List Ent)(k:Nat):All64 (yj seq E k):=by
 intro x hx;simp only[yj,qzr]at hx;obtain⟨i,-,rfl⟩:=hx;exact wv (xe _ _ _ _)
theorem sh(n:Nat)(h2:n<=100000)(w:World):Calls prog 31 #[.int .i64 (n:Int)] w fun e a=>e=.returned (.int .i64 (needN n:Int))/\w=a:=by
 by_cases h1:1<=n
 .exact need_any n h1 h2 w
 .obtain rfl:n=0:=oM;go_enter func31,ntmps31
  go_wp2
  go_ret
  exact⟨rfl,rfl⟩
theorem SK:(prog.info? 60).map (fun i=>(i.zero.map (·.cells.size),i.size,i.bytes))=some (some 64,64,64):=kR
theorem yt:∃i z,prog.info? 60=some i/\i.zero=some z/\z.cells.size=64/\i.size=64/\i.bytes=64:=by
 obtain⟨i,b,a⟩:=qYc.1 SK;simp only[qYe]at a;obtain⟨h1,h2,h⟩:=a;obtain⟨z,j,p⟩:=qYc.1 h1;exact⟨i,z,b,j,p,h2,h⟩
theorem VF(v:Value)(hv:v.cells.size=64)(w:World):(Instr.buildSlice 32 1 #[(0,v)]).run prog w=.ok (.slice (some ⟨w.heap.size,0,none⟩) 1 1) (w.alloc (.cells v.cells 60)):=by
 obtain⟨i,z,a,b,j,hsz,_⟩:=yt;refine run_buildSlice w _ _ 1 _ _ i z underlying32 a b jF jF ?_;obtain⟨a1,a2⟩:=yR 0 v.cells ((Array.range (1*i.size)).map (z.cells[·%z.cells.size]!));rw[show(#[(0,v)]:Array (Nat×Value)).toList=[(0,v)]from rfl];rw[xF _ _ 0 0 64 v _ jN hv jN];show some _=_
 congr 1
 apply qxd
 intro k;rw[a2 k];by_cases p:k<64
 .rw [if_pos ⟨oM,oM,by simp[hsz];omega⟩];rfl
 .rw [if_neg oM,qxf kh,qxf oM]
theorem zcu(seq no of m:Nat)(L:List Ent)(b:L.length=m)(p:m<=4)(a:List Value)(j:a=[.int .i64 (seq:Int),.int .i64 (no:Int),.int .i64 (of:Int),.int .i64 (m:Int)]++(List.replicate 4 Ent.none).flatMap entC):
  a.take 4++(L.flatMap entC++a.drop (4+(L.flatMap entC).length))=pgC seq no of m (padE L):=by
 subst j;rw[wn,b];have h1:([Value.int .i64 (seq:Int),.int .i64 (no:Int),.int .i64 (of:Int),.int .i64 (m:Int)]++(List.replicate 4 Ent.none).flatMap entC).drop (4+m*4)=(List.replicate (4-m) Ent.none).flatMap entC:=by
  have:m=0\/m=1\/m=2\/m=3\/m=4:=oM;rcases this with rfl|rfl|rfl|rfl|rfl<;>rfl
 rw[h1,pgC,padE,b,qye];rfl
def pg0(seq k nd m:Nat):Array Value:= #[.int .i64 (seq:Int),.int .i64 (k:Int),.int .i64 (nd:Int),.int .i64 (m:Int),.int .i64 0,.int .i64 0,.bool false,.int .i64 0,.int .i64 0,.int .i64 0,.bool false,.int .i64 0,.int .i64 0,.int .i64 0,.bool false,.int .i64 0,.int .i64 0,.int .i64 0,.bool false,.int .i64 0]
theorem AV{b:Nat}{T:TypeId}(seq k nd m:Nat)(L:List Ent)(a:L.length=m)(h:m<=4)(j:w.heap[b]?=some (.cells ((pg0 seq k nd m).toList.take 4++(L.flatMap entC++(pg0 seq k nd m).toList.drop (4+(L.flatMap entC).length))).toArray T (0,0))):
  w.heap[b]?=some (.cells (pgC seq k nd m (padE L)).toArray T (0,0)):=by
 rw[j,zcu seq k nd m L a h (pg0 seq k nd m).toList rfl]
theorem sj(seq k nd m:Nat):(pg0 seq k nd m).size=20:=rfl
theorem UX(seq no of m:Nat){L:List Ent}(h:L.length=4):(pgC seq no of m L).length=20:=by
 rw[pgC,qyz,wn,h];rfl
theorem VG{E:List Ent}(j:w.rangeAt g o (E.flatMap entC))(k:Nat):w.rangeAt g (o+k*4*4) ((partE E k).flatMap entC):=by
 have p:∀(E:List Ent) (n:Nat),(E.drop n).flatMap entC=(E.flatMap entC).drop (n*4):=by
  intro E
  induction E with
  |nil=>intro n;simp
  |cons x E b=>
   intro n;cases n with
   |zero=>simp
   |succ n=>rw[List.drop_succ_cons,b,qyf,show(n+1)*4=(entC x).length+n*4 by rw[rK];omega,List.drop_length_add_append]
 have q:∀(E:List Ent) (n:Nat),(E.take n).flatMap entC=(E.flatMap entC).take (n*4):=by
  intro E
  induction E with
  |nil=>intro n;simp
  |cons x E b=>
   intro n;cases n with
   |zero=>simp
   |succ n=>rw[List.take_succ_cons,qyf,b,qyf,show(n+1)*4=(entC x).length+n*4 by rw[rK];omega,List.take_length_add_append]
 intro h s a;rw[partE,q,p,qyq]at a;split at a
 .rw [qyj]at a;have:=j _ s a;rw[show o+k*4*4+h=o+(4*k*4+h) by omega];exact this
 .cases a
def xI(w:World)(seq:Nat)(E:List Ent)(e:Ending)(w':World):Prop:=∃v,e=.returned (.tuple #[v,.int .i64 0])/\Sl w' 60 64 v (needN E.length) (rowC (pagesB seq E))/\From w.heap.size v/\Below w.heap.size w w'
theorem QH(w:World):Calls prog 31 #[.int .i64 0] w fun e a=>e=.returned (.int .i64 1)/\w=a:=sh 0 oM w
theorem Zk{P:Program}(w:World)(b j p a:TypeId)(k g o:Nat)(dl q:Nat)(hu:P.underlying b=some (.slice a))(s:(P.info? a).map (·.size)=some k):
  (Builtin.copy_ #[b,j] p #[.slice (some ⟨g,o,none⟩) dl q,.slice none 0 0]).run P w=.ok (.int .i64 0) w:=by
 cases h:P.info? a with
 |none=>simp[h]at s
 |some i=>simp[Builtin.copy_,run_underlying hu,Builtin.lenOf,Builtin.firstCells,sizeOf,typeInfo,h,storeCells,goInt]
theorem zcv(seq:Nat):(pg0 seq 0 1 0)=(pgC seq 0 1 0 (padE (partE [] 0))).toArray:=rfl
theorem vh{h:Array Oper}{rest:List Oper}{op:Oper}{a:Act}{Q:Exit->Act->World->Prop}(j:op.guard=none)(p q r s:Operand)(v:op.op=.build 297 #[(0,p),(1,q),(2,r),(3,s)])
  (x k nd m:Nat) (A:a.eval p=.int .i64 (x:Int)) (D:a.eval q=.int .i64 (k:Int)) (E:a.eval r=.int .i64 (nd:Int)) (F:a.eval s=.int .i64 (m:Int)) (b:Array Value) (G:b=pg0 x k nd m)
  (H:wpList prog h Q rest (a.put op.dst (.agg b)) w):wpList prog h Q (op::rest) a w:=by
 have J:(Instr.build 297 #[(0,.int .i64 (x:Int)),(1,.int .i64 (k:Int)),(2,.int .i64 (nd:Int)),(3,.int .i64 (m:Int))]).run prog w=.ok (.agg b) w:=by
  rw[G];kernel_rfl
 refine qZa j fun M L=>?_;unfold Oper.wp;simp only[execOp,v,qzl,qzi,qzk,A,D,E,F,qYg,J,qYf];exact L _ _ H
theorem ww(F:List Bk)(x:Bk):rowC (F++[x])=rowC F++bkC x:=by simp[rowC]
theorem VH{c:Nat}(E:List Ent)(aw:E.length=n)(h1:1<=n)(h2:n<=1024)(a6:w.rangeAt g o (E.flatMap entC))(bj:n<=c)(b2:c<=maxLen)(seq:Nat)(ax:seq<=1099511627776)(ay:∀x∈E,XV x)(az:Nib w):
  Calls prog 130 #[.int .i64 (seq:Int),.slice (some ⟨g,o,none⟩) n c] w (xI w seq E):=by
 obtain⟨a7,V,j⟩:=qYc.1 SK;simp only[qYe]at j;obtain⟨aA,a8,q⟩:=j;obtain⟨z,aa,aB⟩:=qYc.1 aA;have b3:needN n<=256:=by unfold needN;omega
 obtain⟨s,aC,b4⟩:∃s:Array Value,s.size=needN n*64/\∀w:World,(Instr.makeSlice 32 (.int .i64 0) (.int .i64 (needN n:Int))).run prog w=.ok (.slice (some ⟨w.heap.size,0,none⟩) 0 (needN n)) (w.alloc (.cells s 60)):=by
  refine⟨madeCells z.cells (needN n*64),by simp[size_madeCells],fun w=>?_⟩;have:=run_make (P:=prog) w 32 60 a7 z underlying32 V aa .i64 .i64 0 (needN n) oM oM (by rw[q];omega) oM;rw[this];simp only[qxt,a8];rfl
 have p:=Y5 V aa aB a8 q;have a:=Y6 a6 ax ay az aw aC;have bn:g<w.heap.size:=by
  have:=a6 0 (.int .i64 ((E[0]'oM).b:Int)) (by
   have b5:0<E.length:=oM;obtain⟨x,l,rfl⟩:∃x l,E=x::l:=by cases E with|nil=>simp at b5|cons x l=>exact⟨x,l,rfl⟩
   rfl)
  exact(zE this).2
 have bp:1<=needN n:=by unfold needN;omega
 have aD:∀k,k<needN n->4*k<n:=fun k aE=>by unfold needN at aE;omega
 have b6:needN n<=n:=by unfold needN;omega
 have b7:=Y2 aD b6;unfold maxLen at b2;clear a6 ax ay az aw V aa aB aA a8 q aC aD;generalize ab:needN n=nd at*;have N:=qqh ab;go_enter func130,ntmps130
 go_wp2_with (first
  |(go_at_call 31;refine(sh n oM _).mono ?_;rintro e bq ⟨rfl,rfl⟩;rw[ab];clear ab)
  |fail)
 have O:=zc w (.cells s 60) rfl;have j:Below w.heap.size w (w.alloc (.cells s 60)):=(qxl _ w).alloc (qXp _) _;have aF:Sl (w.alloc (.cells s 60)) 60 64 (.slice (some ⟨w.heap.size,0,none⟩) 0 nd) 0 (rowC (yj seq E 0)):=
  ⟨by simp[yj,rowC],.inr ⟨w.heap.size,0,nd,_,rfl,O,qXz _,by unfold maxLen;omega,by rw[a.o.2.2.2.2.2];omega,by simp[yj,rowC]⟩⟩
 have aG:From w.heap.size (.slice (some ⟨w.heap.size,0,none⟩) 0 nd):=fun g b8=>by simp[Value.ownBlock]at b8;omega
 generalize w.alloc (.cells s 60)=w1 at*;have ad:=Y3 aF aG j;clear O j aF aG b4;go_loopw[7,21] (fun aH ae wr=>∃k:Nat,k<=nd/\ae=.int .i64 k/\Sl wr 60 64 aH k (rowC (yj seq E k))/\From w.heap.size aH/\Below w.heap.size w wr) (fun _ ae _=>nd-(intOf ae).toNat)
 case atStart=>exact⟨0,oM,rfl,ad.o.1,ad.o.2.1,ad.o.2.2⟩
 case round=>
  obtain⟨k,aE,rfl,hsl,X,v⟩:=hrel;by_cases hlt:k<nd
  .have br:=b7.o.1 k hlt;have bs:(0:Int)<=(k:Int):=oM;have G:=Y3 hsl X v;obtain⟨af,ag,rfl⟩:=hsl.rd.j6;obtain⟨m,H⟩:=qqe ((partE E k).length);have aI:m=min 4 (n-4*k):=by rw[H,partE,qzg,qzb,a.o.2.2.2.2.1]
   have aJ:m<=4:=oM;have aK:Nat.min m 4=m:=Nat.min_eq_left aJ;obtain⟨A,Q⟩:∃A:List Value,A.toArray=pg0 seq k nd m:=⟨(pg0 seq k nd m).toList,rfl⟩
   have ah:A.length=20:=(congrArg Array.size Q).trans (sj seq k nd m);have aL:∀D∈A,D.oneCell'=true:=by
    intro D ai;have aM:D∈pg0 seq k nd m:=by rw[<-Q];simpa using ai
    simp only[pg0,Array.mem_def,qzn,qzz,qYu]at aM;rcases aM with rfl|rfl|rfl|rfl|rfl|rfl|rfl|rfl|rfl|rfl|rfl|rfl|rfl|rfl|rfl|rfl|rfl|rfl|rfl|rfl<;>rfl
   obtain⟨aj,Y⟩:=qqe (wr.alloc (.cells A.toArray 297));have O:aj.heap[wr.heap.size]?=some (.cells (pg0 seq k nd m) 297):=by rw[Y,<-Q];exact zc wr _ rfl
   have ak:=qqu Y;have j:Below w.heap.size w aj:=v.trans ((Upd.below ak).mono v.size);have aN:=VG (Below.range j a.o.1) k;obtain⟨b9,am,S,an,ba⟩:=tQ (P:=prog) aj 146 146 155 4 wr.heap.size 4 4 4 ⟨g,o+k*4*4,none⟩ m m _ _ ((partE E k).flatMap entC) underlying146 Yl O (by rw[wn,<-H,aK])
    (fun T D ao=>by rw[qxa];exact aN T D ao) (by rw[wn,<-H,sj];omega) (fun D ai=>by obtain⟨x,-,hx⟩:=qzq.1 ai;exact XG x D hx)
   replace S:=AV seq k nd m (partE E k) H.symm aJ S;rw[aK]at am;rw[Y]at am;have ap:=qT (qS E k);have aO:=zg S;have bb:(prog.info? 297).map (·.size)=some (pgC seq k nd m (padE (partE E k))).length:=by rw[UX _ _ _ _ ap];exact vn
   have q:Below w.heap.size w b9:=zj j an (qXp _) (fun T e=>by have:=v.size;omega);have aP:=XU (a.o.2.2.2.1.below q) (pgC seq k nd m (padE (partE E k))) (UX _ _ _ _ ap) (pageXs seq nd E k) (xe _ _ _ _) (fun W=>by rw[pageXs,<-H];exact zbJ seq k nd m _ ap);have bc:Hid (mayP (pageXs seq nd E k)=true):=by
    show _=_;have:=tY (seq:=seq) (E:=E) (k:=k) a.o.2.1 a.o.2.2.1 (by rw[a.o.2.2.2.2.1,N.o];exact b3) (by rw[a.o.2.2.2.2.1,N.o];exact hlt);rw[a.o.2.2.2.2.1,N.o]at this;exact this
   have aQ:=hsl.keep ((ak.mono fE).new an (S':=fun T=>T=wr.heap.size) (fun i V e=>e)) (fun T ao e=>by have:=hsl.lt ao;omega);have aq:=Y3 Q ah aL;have bd:Hid ((prog.info? 297).map (·.size)=some A.length):=by show _=_;rw[ah];exact vn
   have Z:=Y5 aP aQ q S aI;clear hsl X v aP aQ q S an ba ak j aN O H Y aI Q ah aL;have be:((k:Int)*4+4<=(n:Int)/\k*4+4-k*4=m/\((k:Int)*4+4).toNat=k*4+4/\(k:Int)*4<=(k:Int)*4+4/\(k:Int)*4+4<=(c:Int))\/(¬(k:Int)*4+4<=(n:Int)/\n-k*4=m/\(k:Int)*4<=(n:Int)/\(n:Int)<=(c:Int)/\(n:Int)<(k:Int)*4+4):=by
    have:=Z.o.2.2.2.2;by_cases aR:(k:Int)*4+4<=(n:Int)
    .exact .inl ⟨aR,oM,oM,oM,oM⟩
    .exact .inr ⟨aR,oM,oM,oM,oM⟩
   obtain⟨y,hy⟩:=qqe (sectP (pageXs seq nd E k));have ar:(bkC y).length=64:=by rw[zm,hy];exact wv (xe _ _ _ _)
   have aS:Hid ((prog.info? 60).map (·.size)=some (bkC y).length):=by show _=_;rw[ar];exact zM
   have F:=Y3 hy ar (zx y);clear hy ar;rcases be with⟨q1,q2,aT,aU,aV⟩|⟨q1,q2,aT,aU,aV⟩
   all_goals
    go_wp2_with (first
     |(refine vh rfl _ _ _ _ rfl seq k nd m oE oE oE oE A.toArray aq.o.1 ?_)
     |(refine zk rfl _ _ _ rfl _ _ _ rfl rfl (by rw[aq.o.2.1];rfl) bd.out aq.o.2.2 ?_)
     |(refine qYz rfl _ _ rfl _ _ rfl _ _ aO underlying297 rfl bb ?_)
     |fail)
    refine Z.o.1.mono ?_;rintro e J ⟨aW,aX⟩;obtain rfl:e=.returned (.tuple #[.agg (bkC y).toArray,.int .i64 0]):=by
     rcases aW with⟨-,h⟩|⟨h,-⟩
     .rw [h,F.o.1]
     .rw [bc.out]at h;cases h
    have aY:=zc J (.cells (bkC y).toArray 60) rfl;have aZ:=zg aY;have au:=qqb aX;have av:Upd (fun _=>False) J (J.alloc (.cells (bkC y).toArray 60)):=(uur _ _).alloc _;have bf:=qqh ((Z.o.2.1.keep au (fun _ _ h=>h)).keep av (fun _ _ h=>h));have b0:=Y2 au av;clear aW aX au av aY q1 q2 aT aU aV am aO;go_wp2_with (first
     |(refine zk rfl _ _ _ rfl _ _ _ rfl rfl (by rw[F.o.2.1];rfl) aS.out F.o.2.2 ?_)
     |(refine qYz rfl _ _ rfl _ _ rfl _ _ aZ underlying60 rfl aS.out ?_)
     |(refine yB rfl 32 60 _ rfl 64 de underlying32 ⟨a7,z,p.o.1,p.o.2.1,p.o.2.2.1,p.o.2.2.2.1⟩ de (bkC y) rfl F.o.2.1 ?_)
     |(at_builtin;refine zK rfl _ _ _ rfl a7 z 64 underlying32 p.o.1 p.o.2.1 p.o.2.2.2.1 p.o.2.2.2.2 p.o.2.2.1 de rfl bf.out (bkC y) oE F.o.2.1 F.o.2.2 oj oM ?_;intro bg bh U L M)
     |fail)
    replace L:Upd (ownS (.slice af k ag)) (J.alloc (.cells (bkC y).toArray 60)) bh:=L;replace M:blockFrom (J.alloc (.cells (bkC y).toArray 60)) (.slice af k ag) bg:=M;have bi:=Y3 U L M;clear U L M aZ;go_roundw
    case rel=>
     obtain⟨U,L,M⟩:=bi.o;have b1:Below w.heap.size w (J.alloc (.cells (bkC y).toArray 60)):=zj Z.o.2.2.1 (b0.o.1.trans b0.o.2) (qXp _) (fun _ h=>h.elim);refine⟨k+1,oM,by go_num,?_,M.ge b1.size G.o.2.1,zj b1 L (qXp _) G.o.2.1.own⟩;rw[th,a.o.2.2.2.2.1,N.o,ww];rw[F.o.1]at U;exact U
    case measure=>simp[intOf];omega
  .obtain rfl:k=nd:=oM;have G:=Y3 hsl X v;obtain⟨af,ag,rfl⟩:=hsl.rd.j6;clear hsl X v;go_wp2
   go_ret2
   exact⟨_,rfl,by unfold pagesB;rw[a.o.2.2.2.2.1,N.o];exact G.o.1,G.o.2.1,G.o.2.2⟩
theorem ZH(seq:Nat)(ae:seq<=1099511627776)(af:Nib w):
  Calls prog 130 #[.int .i64 (seq:Int),.slice none 0 0] w (xI w seq []):=by
 obtain⟨L,z,M,N,ag,O,Q⟩:=yt;obtain⟨j,ah,aF⟩:∃j:Array Value,j.size=64/\∀w:World,(Instr.makeSlice 32 (.int .i64 0) (.int .i64 1)).run prog w=.ok (.slice (some ⟨w.heap.size,0,none⟩) 0 1) (w.alloc (.cells j 60)):=by
  refine⟨madeCells z.cells (1*64),by simp[size_madeCells],fun w=>?_⟩;have:=run_make (P:=prog) w 32 60 L z underlying32 M N .i64 .i64 0 1 oM oM (by rw[Q];omega) oM;rw[this];simp only[O];rfl
 have b:=Y5 M N ag O Q;have S:=Y3 ae af ah;have aG:=fun(w:World) (g:Nat) (aH:TypeId)=>Zk (P:=prog) w 146 146 aH 155 4 g 4 4 4 underlying146 Yl;clear M N ag O Q ae af ah;go_enter func130,ntmps130
 go_wp2_with (first
  |(go_at_call 31;refine(QH _).mono ?_;rintro e aP ⟨rfl,rfl⟩)
  |fail)
 have ai:=zc w (.cells j 60) rfl;have aj:Below w.heap.size w (w.alloc (.cells j 60)):=(qxl _ w).alloc (qXp _) _;have ak:Sl (w.alloc (.cells j 60)) 60 64 (.slice (some ⟨w.heap.size,0,none⟩) 0 1) 0 (rowC (yj seq [] 0)):=
  ⟨by simp[yj,rowC],.inr ⟨w.heap.size,0,1,_,rfl,ai,qXz _,by unfold maxLen;omega,by rw[S.o.2.2];omega,by simp[yj,rowC]⟩⟩
 have am:From w.heap.size (.slice (some ⟨w.heap.size,0,none⟩) 0 1):=fun g aI=>by simp[Value.ownBlock]at aI;omega
 generalize w.alloc (.cells j 60)=w1 at*;have T:=Y3 ak am aj;clear ai aj ak am aF;go_loopw[7,21] (fun an U wr=>∃k:Nat,k<=1/\U=.int .i64 k/\Sl wr 60 64 an k (rowC (yj seq [] k))/\From w.heap.size an/\Below w.heap.size w wr) (fun _ U _=>1-(intOf U).toNat)
 case atStart=>exact⟨0,oM,rfl,T.o.1,T.o.2.1,T.o.2.2⟩
 case round=>
  obtain⟨k,aQ,rfl,hsl,H,s⟩:=hrel;by_cases hlt:k<1
  .obtain rfl:k=0:=oM;have v:=Y3 hsl H s;obtain⟨V,X,rfl⟩:=hsl.rd.j6;obtain⟨a,F⟩:∃a:List Value,a.toArray=pg0 seq 0 1 0:=⟨(pg0 seq 0 1 0).toList,rfl⟩
   have J:a.length=20:=(congrArg Array.size F).trans (sj seq 0 1 0);have ao:∀Y∈a,Y.oneCell'=true:=by
    intro Y aJ;have ap:Y∈pg0 seq 0 1 0:=by rw[<-F];simpa using aJ
    simp only[pg0,Array.mem_def,qzn,qzz,qYu]at ap;rcases ap with rfl|rfl|rfl|rfl|rfl|rfl|rfl|rfl|rfl|rfl|rfl|rfl|rfl|rfl|rfl|rfl|rfl|rfl|rfl|rfl<;>rfl
   have Z:Upd (fun _=>False) wr (wr.alloc (.cells a.toArray 297)):=(uur _ wr).alloc _;have aq:=zg (zc wr (.cells a.toArray 297) rfl);have a6:Below w.heap.size w (wr.alloc (.cells a.toArray 297)):=s.trans ((Upd.below Z).mono s.size);have ar:a=pgC seq 0 1 0 (padE (partE [] 0)):=by have:=congrArg Array.toList (F.trans (zcv seq));simpa using this
   have au:(padE (partE [] 0)).length=4:=rfl;have av:=XU (S.o.2.1.below a6) a J (pageXs seq 1 [] 0) (xe _ _ _ _) (fun W=>by rw[ar];exact zbJ seq 0 1 0 _ au);have aK:Hid (mayP (pageXs seq 1 [] 0)=true):=tY (seq:=seq) (E:=[]) (k:=0) S.o.1 oe de de;have aw:=hsl.keep Z (fun _ _ h=>h);have a7:=Y3 F J ao;have ax:Hid ((prog.info? 297).map (·.size)=some a.length):=by show _=_;rw[J];exact vn
   have a8:=Y3 av aw a6;obtain⟨y,hy⟩:=qqe (sectP (pageXs seq 1 [] 0));have aa:(bkC y).length=64:=by rw[zm,hy];exact wv (xe _ _ _ _)
   have ay:Hid ((prog.info? 60).map (·.size)=some (bkC y).length):=by show _=_;rw[aa];exact zM
   have p:=Y3 hy aa (zx y);clear hsl H s av aw a6 Z F J ao ar au hy aa;simp only[Int.natCast_zero]at*;go_wp2_with (first
    |(refine vh rfl _ _ _ _ rfl seq 0 1 0 oE oE oE oE a.toArray a7.o.1 ?_)
    |(refine zk rfl _ _ _ rfl _ _ _ rfl rfl (by rw[a7.o.2.1];rfl) ax.out a7.o.2.2 ?_)
    |(refine qYz rfl _ _ rfl _ _ rfl _ _ aq underlying297 rfl ax.out ?_)
    |fail)
   refine a8.o.1.mono ?_;rintro e q ⟨az,aA⟩;obtain rfl:e=.returned (.tuple #[.agg (bkC y).toArray,.int .i64 0]):=by
    rcases az with⟨-,h⟩|⟨h,-⟩
    .rw [h,p.o.1]
    .rw [aK.out]at h;cases h
   have aB:=zc q (.cells (bkC y).toArray 60) rfl;have aC:=zg aB;have ab:Upd (fun _=>False) (wr.alloc (.cells a.toArray 297)) q:=uuo aA;have ad:Upd (fun _=>False) q (q.alloc (.cells (bkC y).toArray 60)):=(uur _ _).alloc _;have aL:=qqh ((a8.o.2.1.keep ab (fun _ _ h=>h)).keep ad (fun _ _ h=>h));have aD:=Y2 ab ad;clear az aA ab ad aB aG aq;go_wp2_with (first
    |(refine zk rfl _ _ _ rfl _ _ _ rfl rfl (by rw[p.o.2.1];rfl) ay.out p.o.2.2 ?_)
    |(refine qYz rfl _ _ rfl _ _ rfl _ _ aC underlying60 rfl ay.out ?_)
    |(refine yB rfl 32 60 _ rfl 64 de underlying32 ⟨L,z,b.o.1,b.o.2.1,b.o.2.2.1,b.o.2.2.2.1⟩ de (bkC y) rfl p.o.2.1 ?_)
    |(at_builtin;refine zK rfl _ _ _ rfl L z 64 underlying32 b.o.1 b.o.2.1 b.o.2.2.2.1 b.o.2.2.2.2 b.o.2.2.1 de rfl aL.out (bkC y) oE p.o.2.1 p.o.2.2 oj oM ?_;intro aM aN G A D)
    |fail)
   replace A:Upd (ownS (.slice V 0 X)) (q.alloc (.cells (bkC y).toArray 60)) aN:=A;replace D:blockFrom (q.alloc (.cells (bkC y).toArray 60)) (.slice V 0 X) aM:=D;have aO:=Y3 G A D;clear G A D aC;go_roundw
   case rel=>
    obtain⟨G,A,D⟩:=aO.o;have aE:Below w.heap.size w (q.alloc (.cells (bkC y).toArray 60)):=zj a8.o.2.2 (aD.o.1.trans aD.o.2) (qXp _) (fun _ h=>h.elim);refine⟨1,oM,by go_num,?_,D.ge aE.size v.o.2.1,zj aE A (qXp _) v.o.2.1.own⟩;rw[th,ww];rw[p.o.1]at G;exact G
   case measure=>simp[intOf]
  .obtain rfl:k=1:=oM;have v:=Y3 hsl H s;obtain⟨V,X,rfl⟩:=hsl.rd.j6;clear hsl H s;go_wp2
   go_ret2
   exact⟨_,rfl,v.o.1,v.o.2.1,v.o.2.2⟩
section
open Go.Shelf
attribute [local go_sem] qYb
theorem Dv.exact{S:Nat->Prop}{w:World}{b:Nat}{F:List Bk}{O:List (Nat×Bk)}{P:List Int}(h:Dv S w b F O P):∃j:Nat->Prop,Dv j w b F O P/\(∀a,j a->S a)/\∀a,j a->∃cs t z,w.heap[a]?=some (.cells cs t z):=by
 obtain⟨q,vo,s,h,v⟩:=h;exact⟨dvS b q vo s,⟨q,vo,s,h,fun _ p=>p⟩,v,fun a p=>by obtain⟨cs,t,A⟩:=h.cells a p;exact⟨cs,t,_,A⟩⟩
theorem SL(base i:Nat)(B:List Bk):ckO base (i+1) B=ckO base i B++[Xl base B i]:=by simp[ckO,List.range_succ]
theorem AW(base i:Nat)(B:List Bk):(ckO base i B).length=i:=by simp[ckO]
end
def dsR(xs:List Int):List Value:=[.int .i64 (xs.getD 0 0),.int .i64 (xs.getD 1 0),.int .i64 (xs.getD 2 0),.int .i64 (xs.getD 3 0),.int .i64 (xs.getD 4 0),.bool (xs.getD 5 0==1),.int .i64 (xs.getD 6 0)]
theorem qU(xs:List Int):(dsR xs).length=7:=rfl
theorem wQ(xs:List Int):∀a∈dsR xs,a.oneCell'=true:=by
 intro a b;simp only[dsR,qzn,qzz,qYu]at b;rcases b with rfl|rfl|rfl|rfl|rfl|rfl|rfl<;>rfl
theorem zcw{gl ol cl:Nat}(xs:List Int)(b:xs.length=7)(hx:w.rangeAt gl ol (ints xs)):
  Calls prog 351 #[.slice (some ⟨gl,ol,none⟩) 7 cl] w fun e j=>e=.returned (.agg (dsR xs).toArray)/\Below w.heap.size w j:=by
 have a:=yx hx 0 oM;have G:=yx hx 1 oM;have H:=yx hx 2 oM;have J:=yx hx 3 oM;have L:=yx hx 4 oM;have M:=yx hx 5 oM;have N:=yx hx 6 oM;rw[qXn]at a;have hlt:gl<w.heap.size:=qYh w _ a;have p:Hid (dsR xs=[.int .i64 (xs.getD 0 0),.int .i64 (xs.getD 1 0),.int .i64 (xs.getD 2 0),.int .i64 (xs.getD 3 0),.int .i64 (xs.getD 4 0),.bool (xs.getD 5 0==1),.int .i64 (xs.getD 6 0)]):=rfl;generalize xs.getD 0 0=q at*;generalize xs.getD 1 0=s at*;generalize xs.getD 2 0=v at*;generalize xs.getD 3 0=A at*;generalize xs.getD 4 0=D at*;generalize xs.getD 5 0=E at*;generalize xs.getD 6 0=F at*;clear hx b;go_enter func351,ntmps351
 go_wp2
 go_region
 go_wp2
 exact qYq (zq rfl _ _ w.heap.size 0 [.int .i64 q,.int .i64 s,.int .i64 v,.int .i64 A,.int .i64 D,.bool (E==1),.int .i64 F] _ rfl ((qYk ..).2 (zg (zc w _ rfl))) underlying307 rfl infoThR) rfl
  ⟨by rw[p.out],zP ((qxl _ w).alloc (qXp _) _) 1⟩
theorem ZI(j:k<256){sz:List Nat}(a:xs.length=sz.length)(p:∀x∈xs,0<=x)(q:Yk (numL sz xs))(mb:Bool):
  okGet (sectB k (numL sz xs)) k sz mb=mb/\natsI (numsAt (sectB k (numL sz xs)) 1 sz)=xs:=by
 have h2:(numL sz xs).map (·.2)=sz:=by unfold numL;rw[List.map_snd_zip (by simp[a])]
 obtain⟨b,h⟩:=AD j q mb;rw[h2]at b h;refine⟨b,?_⟩;rw[h];have:=tU a p;unfold numsL at this;unfold natsI;rw[qzj];exact this
def numsP(b:Bk):List Nat:=numsAt b 1 UV
def okP(b:Bk):Bool:=okGet b 3 UV (mayP (natsI (numsP b)))
def cdP(b:Bk):Int:=xu b 3 UV (mayP (natsI (numsP b)))
theorem QI(hx:xs.length=20)(h:mayP xs=true):okP (sectP xs)=true/\natsI (numsP (sectP xs))=xs:=by
 obtain⟨b,j⟩:=tW hx h;obtain⟨p,q⟩:=ZI (k:=3) de (sz:=UV) (by rw[hx];rfl) b j (mayP (natsI (numsP (sectP xs))));have a:natsI (numsP (sectP xs))=xs:=q;refine⟨?_,a⟩;unfold okP;rw[show okGet (sectP xs) 3 UV (mayP (natsI (numsP (sectP xs))))=mayP (natsI (numsP (sectP xs)))from p,a];exact h
def entX(xs:List Int)(i:Nat):List Value:=[.int .i64 ((rowI xs i).getD 0 0),.int .i64 ((rowI xs i).getD 1 0),.bool ((rowI xs i).getD 2 0==1),.int .i64 ((rowI xs i).getD 3 0)]
def SM:List Value:=[.int .i64 0,.int .i64 0,.bool false,.int .i64 0]
def dsPk(xs:List Int)(k:Nat):List Value:=[.int .i64 (xs.getD 0 0),.int .i64 (xs.getD 1 0),.int .i64 (xs.getD 2 0),.int .i64 (xs.getD 3 0)]++(List.range 4).flatMap fun i=>if i<k then entX xs i else SM
def dsP(xs:List Int):List Value:=dsPk xs 4
theorem wy(xs:List Int)(k:Nat):(dsPk xs k).length=20:=by
 have e:∀i,(if i<k then entX xs i else SM).length=4:=fun i=>by split<;>rfl
 simp[dsPk,List.range_succ,e]
theorem XW(xs:List Int)(k:Nat):∀h∈dsPk xs k,h.oneCell'=true:=by
 intro h a;rcases qzm.1 a with a|a
 .simp only[qzn,qzz,qYu]at a;rcases a with rfl|rfl|rfl|rfl<;>rfl
 .obtain ⟨i,-,b⟩:=qzq.1 a;split at b<;>(simp only[entX,SM,qzn,qzz,qYu]at b;rcases b with rfl|rfl|rfl|rfl<;>rfl)
theorem vT(xs:List Int):(dsP xs).length=20:=wy xs 4
theorem vU(xs:List Int):∀v∈dsP xs,v.oneCell'=true:=XW xs 4
theorem QJ(xs:List Int)(a:k<4):(dsPk xs k).take (4+k*4)++entX xs k++(dsPk xs k).drop (4+k*4+4)=dsPk xs (k+1):=by
 rcases(show k=0\/k=1\/k=2\/k=3 by omega)with rfl|rfl|rfl|rfl<;>rfl
theorem UY(w:World):(Instr.alloc 297 true (.tuple #[])).run prog w=.ok (.pointer (some ⟨w.heap.size,0,none⟩)) (w.alloc (.cells (dsPk [] 0).toArray 297)):=by
 kernel_rfl
theorem SN(a b h j:Int)(W:World):(Instr.build 297 #[(0,.int .i64 a),(1,.int .i64 b),(2,.int .i64 h),(3,.int .i64 j)]).run prog W=.ok (.agg ([Value.int .i64 a,.int .i64 b,.int .i64 h,.int .i64 j]++(List.range 4).flatMap fun _=>SM).toArray) W:=by
 kernel_rfl
theorem ur{j cs:Array Value}{b:List Value}(_hs:j.size=cs.size)(p:o+b.length<=cs.size)(h:∀a,j[a]?=if o<=a/\a<o+b.length/\a<cs.size then b[a-o]? else cs[a]?):j=(cs.toList.take o++b++cs.toList.drop (o+b.length)).toArray:=by
 apply qxd
 intro a;rw[h a];simp only[qyr,qxw,List.getElem?_append,qzg,qyq,qyj,qxh,Nat.min_eq_left (show o<=cs.size by omega),Array.getElem?_toList];by_cases h1:a<o
 .rw [if_neg oM,if_pos h1,if_pos h1]
 .by_cases h2:a<o+b.length
  .rw [if_pos oM,if_neg h1,if_pos oM]
  .rw [if_neg oM,if_neg h1,if_neg oM]
   congr 1
   omega
theorem XX{b:Nat}{T:TypeId}(a:k<4)(h:w.heap[b]?=some (.cells (dsPk xs k).toArray T (0,0))):(w.setCells b (4+k*4) (entX xs k)).heap[b]?=some (.cells (dsPk xs (k+1)).toArray T (0,0)):=by
 obtain⟨p,h1,h2,j⟩:=zy (entX xs k) (4+k*4) w b (dsPk xs k).toArray T (0,0) h;rw[h1,ur h2 (by rw[qXi,wy];show 4+k*4+4<=20;omega) j,<-QJ xs a];rfl
theorem zcx{gl ol cl:Nat}(xs:List Int)(s:xs.length=20)(hx:w.rangeAt gl ol (ints xs))(D:20<=cl)(E:cl<=maxLen):
  Calls prog 346 (#[.slice (some ⟨gl,ol,none⟩) 20 cl]++ #[]) w fun e b5=>e=.returned (.agg (dsP xs).toArray)/\Below w.heap.size w b5:=by
 have ai:=yx hx 0 oM;have c1:=yx hx 1 oM;have c2:=yx hx 2 oM;have aA:=yx hx 3 oM;rw[qXn]at ai;have hlt:gl<w.heap.size:=qYh w _ ai;have ao:dsPk xs 0=[.int .i64 (xs.getD 0 0),.int .i64 (xs.getD 1 0),.int .i64 (xs.getD 2 0),.int .i64 (xs.getD 3 0)]++(List.range 4).flatMap fun _=>SM:=rfl;have aj:=SN (xs.getD 0 0) (xs.getD 1 0) (xs.getD 2 0) (xs.getD 3 0);rw[<-ao]at aj;have b6:=qqh ao;generalize xs.getD 0 0=aB at*;generalize xs.getD 1 0=aC at*;generalize xs.getD 2 0=aD at*;generalize xs.getD 3 0=aE at*;obtain⟨G,ap⟩:=qqe (dsPk [] 0);have ak:=UY;simp only[<-ap]at ak;have T:G.toArray.size=20:=by rw[ap,qXi,wy]
 obtain⟨b,H⟩:=qqe (dsPk xs 0);rw[<-H]at aj;have a8:b.toArray.size=20:=by rw[H,qXi,wy]
 have aF:(prog.info? 297).map (·.size)=some b.toArray.size:=by rw[a8];exact vn
 have aG:∀b7∈b,b7.oneCell'=true:=by rw[H];exact XW _ _
 obtain⟨w1,aa⟩:=qqe (w.alloc (.cells G.toArray 297));have A:=qqu aa;have U:=qqg aa;have V:w1.heap.size=w.heap.size+1:=by rw[aa];simp
 have aH:=A.j3 ai id;have aI:=A.j3 c1 id;have aJ:=A.j3 c2 id;have aK:=A.j3 aA id;have aL:=qqh aa;have X:=Y8 hx s D E A U V H;clear hx s D E A U V H aa ai c1 c2 aA ap ao b6;go_enter func346,ntmps346
 go_wp2_with (first
  |(refine zU rfl _ rfl _ ak ?_)
  |fail)
 rw[<-aL.o];refine qZc (S:=fun W=>W.cell? ⟨gl,ol,none⟩=some (.int .i64 aB)/\W.cell? ⟨gl,ol+1,none⟩=some (.int .i64 aC)/\W.cell? ⟨gl,ol+2,none⟩=some (.int .i64 aD)/\W.cell? ⟨gl,ol+3,none⟩=some (.int .i64 aE)) kR (by(simp only[qYi]);exact⟨aH,aI,aJ,aK⟩) (fun L=>?_);refine Wl.i [0,1,2,3,4,5,6,7,8,9,10,11] ?_;iterate 12 refine Wl.t L ?_
 refine Wl.o ?_;refine qYy (i:=12) (v:=.agg b.toArray) rfl kR kR kR (fun _ _ _ h=>h) (Or.inl ⟨by rfl,fun W _=>?_⟩) L ?_
 .simp only[qyy,qys,qyt,execOp,qYg,qzl,qzi,qzk]
  change ((Instr.build 297 #[(0,.int .i64 aB),(1,.int .i64 aC),(2,.int .i64 aD),(3,.int .i64 aE)]).run prog W).andThen _=_
  rw[aj];rfl
 simp only[qyy,qys,qyt,Act.put,qXe,qXh,qXg];refine Wl.r 13 (fun K ab=>?_);rw[if_pos oE];unfold Oper.wp;simp only[qyy,qys,qyt,execOp,qYg,ak,qYf];have Y:=zc w1.drew (.cells G.toArray 297) rfl;have a:=(uur (fun _=>False) w1.drew).alloc (.cells G.toArray 297);obtain⟨M,aM⟩:=qqe (w1.drew.alloc (.cells G.toArray 297));rw[<-aM]at Y a⊢;simp only[World.size_drew]at Y;have aN:=a.j3 L.1 id;have aO:=a.j3 L.2.1 id;have aP:=a.j3 L.2.2.1 id;have aQ:=a.j3 L.2.2.2 id;refine ab.o _ _ ⟨aN,aO,aP,aQ⟩ (fun ad=>?_);clear ab K;have j:M.there w1.heap.size 0 b.toArray.size:=fun p am=>by
  rw[za Y,qXy,qxe (by rw[T,<-a8];exact am)];exact⟨rfl,zf Y _⟩
 refine Wl.r 14 (fun K ab=>?_);rw[if_pos oE];refine qZd _ _ _ rfl _ _ b.toArray rfl rfl j aF (qYo aG) ?_;simp only[Act.put,qXe];have F:=zn M w1.heap.size 0 b;have q:gl≠w1.heap.size:=by have:=X.o.2.2.2.2.2.2.1;omega
 have N:(M.setCells w1.heap.size 0 b).heap[w1.heap.size]?=some (.cells b.toArray 297 (0,0)):=by
  obtain⟨bf,q1,q2,b8⟩:=zy b 0 M w1.heap.size G.toArray 297 (0,0) Y;rw[q1,ur q2 (by rw[T,<-a8,qXi];omega) b8];have:b.length=G.toArray.size:=by rw[T,<-a8,qXi]
  rw[qXy,List.take_zero,qzv,List.drop_of_length_le (by rw[qxh];omega),qxx]
 obtain⟨hx,s,D,E,A,U,V,H⟩:=X.o;have ae:Upd (fun _=>False) w1 M:=((uur _ w1).drew).trans a;have J:=(F.block w.heap.size (by have:=zd U;have:=ae.size;omega) oM).trans (ae.j4 U);have O:Upd (fun p=>p=w1.heap.size) w (M.setCells w1.heap.size 0 b):=((A.trans ae).mono fE).trans F;refine ab.o _ _ ⟨F.j3 ad.1 q,F.j3 ad.2.1 q,F.j3 ad.2.2.1 q,F.j3 ad.2.2.2 q⟩ (fun _=>?_);clear ab K;refine Wl.d ?_;rw[V]at N F q O J;simp only[World.size_drew,V];generalize M.setCells (w.heap.size+1) 0 b=b9 at*;rw[H]at N;have aR:=((A.trans ae).range hx id)
 have Z:=F.range aR q;have ba:=qqh T;have aS:=Y8 Z N J O s D E q;clear hx s D E A U H F Y a aN aO aP aQ j ad L ae J O aR Z N aH aI aJ aK aM ak aj a8 aF aG T X aL q V;go_wp2_with fail
 go_loopg[19] 4 (fun g bb wr=>∃k:Nat,k+g=4/\bb=.int .i64 (k:Int)/\wr.heap[w.heap.size+1]?=some (.cells (dsPk xs k).toArray 297 (0,0))/\Upd (fun p=>p=w.heap.size+1) b9 wr)
 case atStart=>exact⟨0,oM,rfl,aS.o.2.1,uur _ _⟩
 case round=>
  obtain⟨k,bg,rfl,an,a6⟩:=hrel;obtain⟨Z,N,J,O,s,D,E,q⟩:=aS.o;by_cases hlt:k<4
  .have bc:(k:Int)<4:=oM;have bh:(0:Int)<=(k:Int):=oM;have aT:=qqh (UT (a6.range Z q) s D E k hlt);have aU:=wo s hlt;obtain⟨a0,a1,a2,a3,aq⟩:∃a0 a1 a2 a3,rowI xs k=[a0,a1,a2,a3]:=by
    match rowI xs k,aU with
    |[a0,a1,a2,a3],_=>exact⟨_,_,_,_,rfl⟩
   rw[aq]at aT;have bd:Hid (entX xs k=[.int .i64 a0,.int .i64 a1,.bool (a2==1),.int .i64 a3]):=by show _=_;unfold entX;rw[aq];rfl
   have aV:=Y2 an a6;clear Z N J O s D E q an a6 aU aq;go_wp2_with fail
   refine aT.o.mono ?_;rintro e af ⟨rfl,aW⟩;have a:Upd (fun _=>False) wr (af.alloc (.cells #[.int .i64 a0,.int .i64 a1,.int .i64 a2,.int .i64 a3] 444)):=(uuo aW).alloc _;have Q:=a.j4 aV.o.1;have j:(af.alloc (.cells #[.int .i64 a0,.int .i64 a1,.int .i64 a2,.int .i64 a3] 444)).there (w.heap.size+1) (4+k*4) 4:=fun p am=>by
    rw[za Q,zf Q,qxe (by rw[qXi,wy];omega)];exact⟨rfl,rfl⟩
   have aX:=Y2 a Q;obtain⟨a7,ag⟩:∃a7:List Value,a7=[.int .i64 a0,.int .i64 a1,.bool (a2==1),.int .i64 a3]:=⟨_,rfl⟩
   have aY:a7.toArray.all (·.oneCell')=true:=by rw[ag];simp[Value.oneCell']
   have aZ:(prog.info? 155).map (·.size)=some a7.toArray.size:=by rw[ag];exact Yl
   have b0:(af.alloc (.cells #[.int .i64 a0,.int .i64 a1,.int .i64 a2,.int .i64 a3] 444)).there (w.heap.size+1) (4+k*4) a7.toArray.size:=by rw[ag];exact j
   replace j:=b0;clear a Q aW;simp only[ints,qzi,qzk];go_wp2_with (first
    |(refine zk rfl _ _ _ rfl _ _ [Value.int .i64 a0,.int .i64 a1,.int .i64 a2,.int .i64 a3] rfl rfl rfl Vt oK ?_)
    |(refine qZb rfl _ _ _ rfl (w.heap.size+1) (4+k*4) a7.toArray rfl (by rw[ag];rfl) j aZ aY ?_)
    |fail)
   obtain⟨a,Q⟩:=aX.o;have ar:=XX hlt Q;rw[bd.out]at ar;have b1:=(aV.o.2.trans (a.mono (S':=fun p=>p=w.heap.size+1) (fun _ _ h=>h.elim))).trans (zn (af.alloc (.cells #[.int .i64 a0,.int .i64 a1,.int .i64 a2,.int .i64 a3] 444)) (w.heap.size+1) (4+k*4) [Value.int .i64 a0,.int .i64 a1,.bool (a2==1),.int .i64 a3]);generalize (af.alloc (.cells #[.int .i64 a0,.int .i64 a1,.int .i64 a2,.int .i64 a3] 444)).setCells (w.heap.size+1) (4+k*4) [Value.int .i64 a0,.int .i64 a1,.bool (a2==1),.int .i64 a3]=bi at*;have X:=Y2 ar b1;clear a Q ar b1 j b0 aY aZ ag aX;go_roundg (gk-1)
   case measure=>omega
   case rel=>exact⟨k+1,oM,by go_num,X.o.1,X.o.2⟩
  .obtain rfl:k=4:=oM;have bc:¬(((4:Nat):Int)<4):=de;have ah:=vT xs;have h1:=vU xs;have au:(prog.info? 297).map (·.size)=some (dsP xs).length:=by rw[ah];exact vn
   have b2:(prog.info? 297).map (·.size)=some (dsP xs).toArray.size:=by rw[qXi,ah];exact vn
   have b3:wr.rangeAt (w.heap.size+1) 0 (dsP xs):=zg an;have av:=(a6.block w.heap.size (zd J) oM).trans J;have T:G.toArray.size=20:=ba.o;have j:wr.there w.heap.size 0 (dsP xs).toArray.size:=fun p am=>by
    rw[za av,zf av,qxe (by rw[qXi,ah]at am;omega)];exact⟨rfl,rfl⟩
   have aw:wr.there w.heap.size 0 (dsP xs).length:=by rw[qXi]at j;exact j
   have b4:=O.trans a6;obtain⟨ax,ay⟩:=qqe (dsP xs);rw[<-ay]at ah h1 au b2 b3 j aw;have be:=qqh ay;clear ay;have az:=Y3 aw au b4;clear Z N J O s D E an a6 aw b4 ah av;go_wp2_with (first
    |(refine qYz rfl _ _ rfl _ _ rfl _ _ b3 underlying297 rfl au ?_)
    |(refine qZb rfl _ _ _ rfl w.heap.size 0 ax.toArray rfl rfl j b2 (qYo h1) ?_)
    |fail)
   exact qYq (zq rfl _ _ w.heap.size 0 ax _ rfl (qYl _ _ _ _ az.o.1) underlying297 rfl az.o.2.1) rfl
    ⟨by rw[be.o],zj (qxl _ w) ((az.o.2.2.mono (S':=fun p=>p=w.heap.size+1\/p=w.heap.size) (fun _ _ h=> .inl h)).trans ((zn wr w.heap.size 0 ax).mono (fun _ _ h=> .inr h))) (qXp _) (fun k e=>oM)⟩
end Go.Proofs.YtpejdgiccaijfaaGreatDoor
