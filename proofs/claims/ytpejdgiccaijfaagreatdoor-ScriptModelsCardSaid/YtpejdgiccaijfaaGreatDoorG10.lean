/- The forms of r -/
import Derived.Test.YtpejdgiccaijfaaGreatDoorG06
import Derived.Test.YtpejdgiccaijfaaGreatDoorG09
import Derived.Test.YtpejdgiccaijfaaGreatDoorG08
set_option maxRecDepth 100000
set_option maxHeartbeats 4000000
namespace Go.Proofs.YtpejdgiccaijfaaGreatDoor
open Go Go.RowKit Tryz
theorem wD{P:Prop}(h:P:=by
 have hmf:=qqf;go_enter q1f,q2f
 go_wp2_with fail
 refine(xo).mono ?_;rintro e w1 ⟨rfl,rfl⟩;go_wp2
 obtain⟨h1,h2,h3,h4,h5,h6,h7⟩:=ue w (.cells #[.int .i64 n3f,.slice (some ⟨w.heap.size+1+1+1+1,0,none⟩) TZ TZ,.func (.func n5f) #[] #[],.func (.func n6f) #[] #[.pointer (some ⟨w.heap.size+1+1+1,0,none⟩)],.func (.func n7f) #[] #[]] n8f)
  (.cells (bndC d9f).toArray 207) (.cells #[.slice (some ⟨w.heap.size+1,0,none⟩) JE JE] 294) (.cells #[.func (.func 194) #[] #[.pointer (some ⟨w.heap.size+1+1,0,none⟩)]] 138) (.cells (ints (natsI d11f)).toArray 3)
 refine qYp (zv rfl _ _ w.heap.size 0 [.int .i64 n3f,.slice (some ⟨w.heap.size+1+1+1+1,0,none⟩) TZ TZ,.func (.func n5f) #[] #[],.func (.func n6f) #[] #[.pointer (some ⟨w.heap.size+1+1+1,0,none⟩)],.func (.func n7f) #[] #[]] _ rfl (zg h1) zcs rfl zct) rfl
  ⟨w.heap.size+1+1+1+1,w.heap.size+1+1+1,rfl,⟨zg h5,_,za h4 0,w.heap.size+1+1,w.heap.size+1,JE,rfl,za h3 0,zg h2⟩,Upd.below h7⟩):P:=h
theorem uq{P:Prop}(h:P:=by
 obtain⟨hs,v,hv,hB⟩:=hF;have hcz:(prog.info? n14f).map (·.size)=some cs.length:=by rw[hcs];exact JF
 have htell':∀W,Below w.heap.size w W->Calls prog n5f (#[.agg cs.toArray]++ #[]) W (zR W TZ xs):=fun W _=>htell W;have hmay:∀W gl cc,TZ<=cc->cc<=maxLen->Below w.heap.size w W->W.rangeAt gl 0 (ints xs)->Calls prog n6f (#[.slice (some ⟨gl,0,none⟩) TZ cc]++ #[.pointer (some ⟨gt,0,none⟩)]) W fun e W'=>e=.returned (.bool (d16f xs))/\Below W.heap.size W W':=fun W gl cc hc hc2 hW hr=>
  zcu xs hxl hc hc2 ((uuo (S:=fun _=>False) hW).jS hv id) (hB.below hW) hr
 cases hm:d16f xs with
 |false=>
  rw[hm]at hmay;exact(zcv (w:=w) n3f xs TZ gs TZ n5f n6f #[] #[.pointer (some ⟨gt,0,none⟩)] (.func (.func n7f) #[] #[]) rfl cs hcz (fun _ _=>rfl) (fun _ _=>rfl) htell' hmay).mono
   (fun e w' ⟨he,hb⟩=>⟨.inr ⟨hm,he⟩,hb⟩)
 |true=>
  rw[hm]at hmay;obtain⟨h0,hfit⟩:=zcw hxl hm;have e:numsL (numL d11f xs)=xs:=uT jF h0;rw[<-e]at htell' hmay;exact(zcx (w:=w) n3f de (numL d11f xs) hfit TZ (by rw[qy jF];rfl) de gs TZ n5f n6f #[] #[.pointer (some ⟨gt,0,none⟩)] (.func (.func n7f) #[] #[]) rfl cs hcz (by rw[YG jF];exact hs) hN (fun _ _=>rfl) (fun _ _=>rfl) htell' hmay).mono
   (fun e w' ⟨he,hb⟩=>⟨.inl ⟨hm,he⟩,hb⟩)):P:=h
theorem wm{P:Prop}(h:P:=by
 have HN:=Y2 hN htell;have hcz:(prog.info? n14f).map (·.size)=some cs.length:=by rw[hcs];exact JF
 have HC:=qqh hcz;have hr:((w.alloc (.cells cs.toArray n14f)).alloc (.cells (bkC zB).toArray 60)).rangeAt w.heap.size 0 cs:=qYi (zg (zc w _ rfl)) _;clear hN htell hcz;go_enter AS,AT
 go_wp2_with fail
 change Code.wp _ _ _ _ ((w.alloc (.cells cs.toArray n14f)).alloc (.cells (bkC zB).toArray 60))
 have hg:((w.alloc (.cells cs.toArray n14f)).alloc (.cells (bkC zB).toArray 60)).heap[w.heap.size+1]?=some (.cells (bkC zB).toArray 60):=zc _ _ oe;have hu:Upd (fun _=>False) w ((w.alloc (.cells cs.toArray n14f)).alloc (.cells (bkC zB).toArray 60)):=((uur _ w).alloc _).alloc _;generalize (w.alloc (.cells cs.toArray n14f)).alloc (.cells (bkC zB).toArray 60)=w2 at*;have hb2:Below w.heap.size w w2:=Upd.below hu;refine qZb (S:=fun W=>W.rangeAt w.heap.size 0 cs) kR oE (fun hHeld=>?_);refine Wl.l 1 (fun w h=>h) AU HC.o hHeld ?_;refine Wl.r 0 (fun K hK=>?_);go_simp
 refine(AV _).mono ?_;rintro e w3 ⟨gs,gt,rfl,hF,hb3⟩;have hb3':Below w2.heap.size w2 w3:=yv hb3;refine hK.o _ _ (Below.range hb3 hHeld) (fun hHeld2=>?_);clear hK K;refine Wl.r 2 (fun K hK=>?_);go_simp
 refine(AW hF ((HN.o.1.keep hu id).below hb3') cs hcs xs hxl HN.o.2).mono ?_;rintro e w4 ⟨he,hb4⟩;have hb4':Below w2.heap.size w2 w4:=hb3'.trans (hb4.mono hb3'.size);have hg4:=(hb4'.block _ (zd hg)).trans hg;have hth:w4.there (w.heap.size+1) 0 64:=fun j hj=>by
  rw[za hg4,zf hg4];exact⟨by rw[qXx,qxe oR];rfl,rfl⟩
 obtain⟨y,cd,hy,hres,rfl⟩:∃(y:Bk) (cd:Int),y.length=64/\((d16f xs=true/\y=AX xs/\cd=0)\/(d16f xs=false/\y=zB/\cd=10))/\e=.returned (.tuple #[.agg (bkC y).toArray,.int .i64 cd]):=by
  rcases he with⟨hm,rfl⟩|⟨hm,rfl⟩
  .exact ⟨_,0,AY hxl,.inl ⟨hm,rfl,rfl⟩,rfl⟩
  .exact ⟨_,10,zH,.inr ⟨hm,rfl,rfl⟩,rfl⟩
 have HR:=Y2 hy hres;clear he hy hres;have hst:w4.there (w.heap.size+1) 0 (bkC y).toArray.size:=by rw[zn _ HR.o.1];exact hth
 have hst2:w4.there (w.heap.size+1) 0 (bkC y).length:=by rw[zm,HR.o.1];exact hth
 have hsz2:(prog.info? 60).map (·.size)=some (bkC y).toArray.size:=by rw[zn _ HR.o.1];exact zF
 refine hK.o _ _ (Below.range hb4 hHeld2) (fun hHeld3=>?_);clear hK K;refine Wl.i [3,4] ?_;iterate 2 refine Wl.t hHeld3 ?_
 refine Wl.o ?_;have hU5:Below w.heap.size w (w4.setCells (w.heap.size+1) 0 (bkC y)):=zj (hb2.trans (hb4'.mono hu.size)) (zo w4 (w.heap.size+1) 0 _) (qXo _) (fun k e=>oM);refine Wl.r 5 (fun K hK=>?_);rw[if_pos oy];refine qZc _ _ _ rfl _ _ (List.toArray _) rfl rfl (hst) (hsz2) (qYn (zu _)) ?_;simp only[Act.put,qXd];refine hK.o _ _ ((zo w4 (w.heap.size+1) 0 (bkC y)).range hHeld3 oM) (fun hHeld4=>?_);clear hK K;refine Wl.r 6 (fun K hK=>?_);go_simp
 refine hK.o _ _ (hHeld4) (fun _=>?_);clear hK K;refine Wl.d ?_;have HE:=Y2 hU5 hst2;clear hst hst2 hsz2 hU5 hth hg4 hb4 hb4' hb3 hb3' hHeld hHeld2 hHeld3 hHeld4 hF hr hg hu hb2;go_wp2
 refine qYp (zp rfl _ _ (w.heap.size+1) 0 (bkC y) _ rfl (qYk _ _ _ _ HE.o.2) underlying60 rfl (zq _ HR.o.1)) rfl ⟨?_,HE.o.1⟩;rcases HR.o.2 with⟨hm,rfl,rfl⟩|⟨hm,rfl,rfl⟩
 .exact .inl ⟨hm,rfl⟩
 .exact .inr ⟨hm,rfl⟩):P:=h
def QI:List Nat:=[6,6,1,2,2,1,4]
def Wm(gs gt:Nat):Value:=.agg #[.int .i64 2,.slice (some ⟨gs,0,none⟩) 7 7,.func (.func 349) #[] #[],.func (.func 350) #[] #[.pointer (some ⟨gt,0,none⟩)],.func (.func 351) #[] #[]]
def QJ(w:World)(gs gt:Nat):Prop:=w.rangeAt gs 0 (ints (natsI QI))/\∃v,w.cell? ⟨gt,0,none⟩=some v/\Bnd w v bndR
theorem Vy:(prog.info? 404).map (·.size)=some 5:=kR
theorem infoThR:(prog.info? 307).map (·.size)=some 7:=kR
namespace fFormR2
theorem q1f:type_of% @func276:= @func276
theorem q2f:type_of% @ntmps276:= @ntmps276
abbrev n3f:Nat:=2
abbrev TZ:Nat:=7
abbrev n5f:Nat:=349
abbrev n6f:Nat:=350
abbrev n7f:Nat:=351
abbrev n8f:Nat:=404
abbrev d9f:= @bndR
abbrev JE:Nat:=7
abbrev d11f:= @QI
theorem zcs:type_of% @underlying404:= @underlying404
theorem zct:type_of% @Vy:= @Vy
end fFormR2
open fFormR2 in
theorem xG(w:World):Calls prog 276 #[] w fun e w'=>∃gs gt,e=.returned (Wm gs gt)/\QJ w' gs gt/\Below w.heap.size w w':=wD
def sectR(xs:List Int):Bk:=sectB 2 (numL QI xs)
theorem uX{xs:List Int}(h:xs.length=7):(sectR xs).length=64:=vn jA
def YR(w:World)(xs:List Int)(e:Ending)(w':World):Prop:=
 ((mayR xs=true/\e=.returned (.tuple #[.agg (bkC (sectR xs)).toArray,.int .i64 0]))\/(mayR xs=false/\e=.returned (.tuple #[.agg (bkC zB).toArray,.int .i64 10])))/\Below w.heap.size w w'
namespace fFormR2
abbrev n14f:Nat:=307
theorem JF:type_of% @infoThR:= @infoThR
abbrev d16f:= @mayR
theorem zcu:type_of% @qC:= @qC
theorem zcv:type_of% @Vu:= @Vu
theorem zcw:type_of% @sC:= @sC
theorem zcx:type_of% @YI:= @YI
end fFormR2
open fFormR2 in
theorem YS{w:World}{gs gt:Nat}(hF:QJ w gs gt)(hN:Nib w)(cs:List Value)(hcs:cs.length=7)(xs:List Int)(hxl:xs.length=7)
  (htell:∀W,Calls prog 349 #[.agg cs.toArray] W (zR W 7 xs)):
  Calls prog 426 #[Wm gs gt,.agg cs.toArray] w (YR w xs):=uq
namespace fFormR2
theorem AS:type_of% @func391:= @func391
theorem AT:type_of% @ntmps391:= @ntmps391
theorem AU:type_of% @underlying307:= @underlying307
theorem AV:type_of% @xG:= @xG
theorem AW:type_of% @YS:= @YS
abbrev AX:= @sectR
theorem AY:type_of% @uX:= @uX
end fFormR2
open fFormR2 in
theorem QK{w:World}(hN:Nib w)(cs:List Value)(hcs:cs.length=7)(xs:List Int)(hxl:xs.length=7)
  (htell:∀W,Calls prog 349 #[.agg cs.toArray] W (zR W 7 xs)):
  Calls prog 391 #[.agg cs.toArray] w (YR w xs):=wm
def Vz:List Nat:=[6,2,2,1,2,2,1,4,2,2,1,4,2,2,1,4,2,2,1,4]
def Wn(gs gt:Nat):Value:=.agg #[.int .i64 3,.slice (some ⟨gs,0,none⟩) 20 20,.func (.func 342) #[] #[],.func (.func 344) #[] #[.pointer (some ⟨gt,0,none⟩)],.func (.func 346) #[] #[]]
def QL(w:World)(gs gt:Nat):Prop:=w.rangeAt gs 0 (ints (natsI Vz))/\∃v,w.cell? ⟨gt,0,none⟩=some v/\Bnd w v bndP
theorem VA:(prog.info? 393).map (·.size)=some 5:=kR
theorem wn:(prog.info? 297).map (·.size)=some 20:=kR
namespace fFormP2
theorem q1f:type_of% @func269:= @func269
theorem q2f:type_of% @ntmps269:= @ntmps269
abbrev n3f:Nat:=3
abbrev TZ:Nat:=20
abbrev n5f:Nat:=342
abbrev n6f:Nat:=344
abbrev n7f:Nat:=346
abbrev n8f:Nat:=393
abbrev d9f:= @bndP
abbrev JE:Nat:=4
abbrev d11f:= @Vz
theorem zcs:type_of% @underlying393:= @underlying393
theorem zct:type_of% @VA:= @VA
end fFormP2
open fFormP2 in
theorem vr(w:World):Calls prog 269 #[] w fun e w'=>∃gs gt,e=.returned (Wn gs gt)/\QL w' gs gt/\Below w.heap.size w w':=wD
def sectP(xs:List Int):Bk:=sectB 3 (numL Vz xs)
theorem xS{xs:List Int}(h:xs.length=20):(sectP xs).length=64:=vn jA
def YT(w:World)(xs:List Int)(e:Ending)(w':World):Prop:=
 ((mayP xs=true/\e=.returned (.tuple #[.agg (bkC (sectP xs)).toArray,.int .i64 0]))\/(mayP xs=false/\e=.returned (.tuple #[.agg (bkC zB).toArray,.int .i64 10])))/\Below w.heap.size w w'
namespace fFormP2
abbrev n14f:Nat:=297
theorem JF:type_of% @wn:= @wn
abbrev d16f:= @mayP
theorem zcu:type_of% @qD:= @qD
theorem zcv:type_of% @Vv:= @Vv
theorem zcw:type_of% @uV:= @uV
theorem zcx:type_of% @YJ:= @YJ
end fFormP2
open fFormP2 in
theorem YU{w:World}{gs gt:Nat}(hF:QL w gs gt)(hN:Nib w)(cs:List Value)(hcs:cs.length=20)(xs:List Int)(hxl:xs.length=20)
  (htell:∀W,Calls prog 342 #[.agg cs.toArray] W (zR W 20 xs)):
  Calls prog 268 #[Wn gs gt,.agg cs.toArray] w (YT w xs):=uq
namespace fFormP2
theorem AS:type_of% @func195:= @func195
theorem AT:type_of% @ntmps195:= @ntmps195
theorem AU:type_of% @underlying297:= @underlying297
theorem AV:type_of% @vr:= @vr
theorem AW:type_of% @YU:= @YU
abbrev AX:= @sectP
theorem AY:type_of% @xS:= @xS
end fFormP2
open fFormP2 in
theorem YV{w:World}(hN:Nib w)(cs:List Value)(hcs:cs.length=20)(xs:List Int)(hxl:xs.length=20)
  (htell:∀W,Calls prog 342 #[.agg cs.toArray] W (zR W 20 xs)):
  Calls prog 195 #[.agg cs.toArray] w (YT w xs):=wm
abbrev recC(a0 a1 a2 a3 a4:Int)(d:Bool)(a6:Int):List Value:=[.int .i64 a0,.int .i64 a1,.int .i64 a2,.int .i64 a3,.int .i64 a4,.bool d,.int .i64 a6]
abbrev recX(a0 a1 a2 a3 a4:Int)(d:Bool)(a6:Int):List Int:=[a0,a1,a2,a3,a4,(bitN d:Int),a6]
theorem zcy(a0 a1 a2 a3 a4:Int)(d:Bool)(a6:Int)(w:World):Calls prog 349 #[.agg (recC a0 a1 a2 a3 a4 d a6).toArray] w (zR w 7 (recX a0 a1 a2 a3 a4 d a6)):=by
 obtain⟨L,hL⟩:=qqe ((recC a0 a1 a2 a3 a4 d a6).toArray);have hg:=zc w (.cells L 307) rfl;have c0:(w.alloc (.cells L 307)).cell? ⟨w.heap.size,0,none⟩=some (.int .i64 a0):=(za hg 0).trans oT;have c1:(w.alloc (.cells L 307)).cell? ⟨w.heap.size,1,none⟩=some (.int .i64 a1):=(za hg 1).trans oT;have c2:(w.alloc (.cells L 307)).cell? ⟨w.heap.size,2,none⟩=some (.int .i64 a2):=(za hg 2).trans oT;have c3:(w.alloc (.cells L 307)).cell? ⟨w.heap.size,3,none⟩=some (.int .i64 a3):=(za hg 3).trans oT;have c4:(w.alloc (.cells L 307)).cell? ⟨w.heap.size,4,none⟩=some (.int .i64 a4):=(za hg 4).trans oT;have c5:(w.alloc (.cells L 307)).cell? ⟨w.heap.size,5,none⟩=some (.bool d):=(za hg 5).trans oT;have c6:(w.alloc (.cells L 307)).cell? ⟨w.heap.size,6,none⟩=some (.int .i64 a6):=(za hg 6).trans oT;rw[<-hL];have hb:Below w.heap.size w (w.alloc (.cells L 307)):=(qxl _ _).alloc (qXo _) _;have HB:=qqh hb;clear hg hL hb;go_enter func349,ntmps349
 go_wp2
 generalize w.alloc (.cells L 307)=w1 at*;obtain⟨m,hm⟩:=qqe (w.heap.size);rw[<-hm]at c0 c1 c2 c3 c4 c5 c6⊢;have HM:=qqh hm;clear hm;refine qZb (S:=fun W=>W.cell? ⟨m,0,none⟩=some (.int .i64 a0)/\W.cell? ⟨m,1,none⟩=some (.int .i64 a1)/\W.cell? ⟨m,2,none⟩=some (.int .i64 a2)/\W.cell? ⟨m,3,none⟩=some (.int .i64 a3)/\W.cell? ⟨m,4,none⟩=some (.int .i64 a4)/\W.cell? ⟨m,5,none⟩=some (.bool d)/\W.cell? ⟨m,6,none⟩=some (.int .i64 a6)) kR (by(simp only[qYh]);exact⟨c0,c1,c2,c3,c4,c5,c6⟩) (fun hHeld=>?_);refine Wl.i [0,1,2,3,4,5,6,7,8,9,10,11,13,14] ?_;iterate 14 refine Wl.t hHeld ?_
 refine Wl.o ?_;refine Wl.r 12 (fun K hK=>?_);go_simp
 refine(Vs d _).mono ?_;rintro e w3 ⟨rfl,h3⟩;rw[<-h3];clear h3 w3;refine hK.o _ _ (hHeld) (fun hH1=>?_);clear hK K;refine Wl.r 15 (fun K hK=>?_);go_simp
 refine hK.o _ _ (⟨zl hH1.1 _,zl hH1.2.1 _,zl hH1.2.2.1 _,zl hH1.2.2.2.1 _,zl hH1.2.2.2.2.1 _,zl hH1.2.2.2.2.2.1 _,zl hH1.2.2.2.2.2.2 _⟩) (fun hH2=>?_);clear hK K;refine Wl.r 16 (fun K hK=>?_);go_simp
 refine hK.o _ _ (hH2) (fun hH3=>?_);clear hK K;refine Wl.d ?_;clear hHeld hH1 hH2;go_wp2
 go_ret
 refine⟨w1.heap.size,7,rfl,qXo _,by unfold maxLen;omega,zg (zc w1.drew _ rfl),?_⟩;exact(zQ HB.o 1).alloc HB.o.size _
attribute [local go_sem↓] Zt Wi qK Zu Go.wp_at_zero Go.wp_at_succ
theorem Ao{S:Nat->Prop}{w:World}{j d base n cov next:Nat}{W:List (Nat×Bk)}(h:Jn S w j d base n cov next W):
  Calls prog 311 #[.pointer (some ⟨j,0,none⟩)] w fun e w'=>e=.returned (.int .i64 ((n:Int)-((next:Int)-1-(cov:Int))))/\Upd (fun _=>False) w w':=by
 obtain⟨v,h,-⟩:=h;obtain⟨-,-,c2,c3,c4,-⟩:=h.c;obtain⟨-,-,hn,hwl,hrm,hmx,-⟩:=h.good;have q1:IntKind.i64.wrap ((next:Int)-1)=(next:Int)-1:=qxu _ oM;have q2:IntKind.i64.wrap ((next:Int)-1-(cov:Int))=(next:Int)-1-(cov:Int):=qxu _ oM;have q3:IntKind.i64.wrap ((n:Int)-((next:Int)-1-(cov:Int)))=(n:Int)-((next:Int)-1-(cov:Int)):=qxu _ oM;clear h hn hwl hrm hmx;go_enter func311,ntmps311
 go_wp2
 go_quiet(fail)
 go_wp2
 go_ret
 exact⟨rfl,(uur _ _).drewN nq⟩
theorem wN{w:World}{g i k:Nat}{v u:Value}(h:w.cell? ⟨g,i,none⟩=some v)(hne:¬k=i):(w.setCell ⟨g,k,none⟩ u).cell? ⟨g,i,none⟩=some v:=by
 rw[World.cell?_setCell_other _ _ _ _ (fun e=>hne (congrArg Addr.off e)),h]
abbrev jaddX(next n:Nat)(op block slot:Int)(d:Bool)(sum:Int):List Int:=recX (next:Int) (((next-1)/n:Nat):Int) op block slot d sum
theorem JnGood.add{base n cov next:Nat}{W:List (Nat×Bk)}(h:JnGood base n cov next W)(hroom:next<=cov+n)(hmx:next<=1099511627776){y:Bk}(hy:y.length=64):JnGood base n cov (next+1) (W++[(next,y)]):=
 ⟨fun p hp=>by rcases qzl.1 hp with h1|h1;exact h.w64 p h1;simp at h1;subst h1;exact hy,
  fun p hp=>by rcases qzl.1 hp with h1|h1;have:=h.lt p h1;omega;simp at h1;subst h1;simp,
  h.n1,by have:=h.wl;simp;omega,oM,oM,h.bs⟩
def JG(S:Nat->Prop)(w:World)(j d base n cov next:Nat)(W:List (Nat×Bk))(y:Bk)(e:Ending)(w':World):Prop:=
 e=.returned (.tuple #[.int .i64 (next:Int),.int .i64 0])/\Jn S w' j d base n cov (next+1) (W++[(next,y)])/\Upd S w w'
theorem zdP{S:Nat->Prop}{w:World}{j d base n cov next:Nat}{W:List (Nat×Bk)}(h:Jn S w j d base n cov next W)(hn:∀k,w.heap.size<=k->S k)(hN:Nib w)(hSN:¬S 0)(hroom:next<=cov+n)(hmx:next<=1099511627776)
  (a0 a1 op block slot:Int) (db:Bool) (sum:Int) (hmay:mayR (jaddX next n op block slot db sum)=true):
  Calls prog 322 #[.pointer (some ⟨j,0,none⟩),.agg (recC a0 a1 op block slot db sum).toArray] w (JG S w j d base n cov next W (sectR (jaddX next n op block slot db sum))):=by
 obtain⟨vw,h,hS⟩:=h;have hgd:=h.good;obtain⟨w1,hw1⟩:=qqe (w.alloc (.cells (recC a0 a1 op block slot db sum).toArray 307));have hu1:=qqu hw1;have hg1:=qqg hw1;have HRm:=qqh (Ao (S:=Al j vw) ⟨vw,h.new hu1,fun _ h=>h⟩);have q0:((n:Int)-((next:Int)-1-(cov:Int))==0)=false:=by have:=hgd.wl;simp;omega
 have q00:¬(n:Int)-((next:Int)-1-(cov:Int))=0:=by have:=hgd.wl;omega
 have q4:¬1099511627776<(next:Int):=oM;have hn1:=hgd.n1;have hnx:1<=next:=by have:=hgd.wl;omega
 have H:=Y10 h hS hn hN hSN hroom hmx hmay hu1 hg1;have HW1:=qqh hw1;clear h hS hn hN hSN hroom hmay hu1 hg1 hw1 hgd;go_enter func322,ntmps322
 go_wp2_with fail
 rw[<-HW1.o];refine HRm.out.mono ?_;rintro e w2 ⟨rfl,hu2⟩;obtain⟨h,hS,hn,hN,hSN,hroom,-,hmay,hu1,hg1⟩:=H.o;have hu12:=hu1.trans hu2;have h2:=h.new hu12;have hg2:=hu2.jT hg1;obtain⟨-,-,c2,-,c4,-⟩:=h2.c;obtain⟨m,hm⟩:=qqe (w.heap.size);have hjm:¬j=m:=by have:=zd h.str;omega
 rw[<-hm]at hg2;have b0:w2.cell? ⟨m,0,none⟩=some (.int .i64 a0):=za hg2 0;have b1:w2.cell? ⟨m,1,none⟩=some (.int .i64 a1):=za hg2 1;have f0:=zf hg2 0;have f1:=zf hg2 1;have H2:=Y4 h2 hg2 hu12 hm;have r1:IntKind.i64.wrap ((next:Int)-1)=(next:Int)-1:=qxu _ oM;obtain⟨lp,hlp⟩:=qqe ((next-1)/n);have hlp1:lp<=next-1:=by rw[hlp];exact Nat.div_le_self _ _
 have r2:IntKind.i64.wrap (((next:Int)-1).tdiv (n:Int))=(lp:Int):=by
  rw[show(next:Int)-1=((next-1:Nat):Int) by omega,<-Int.ofNat_tdiv,<-hlp];exact qxu _ oM
 have hn0:¬n=0:=oM;have g21:=zh hg2 0 (.int .i64 (next:Int));have b11:(w2.setCell ⟨m,0,none⟩ (.int .i64 (next:Int))).cell? ⟨m,1,none⟩=some (.int .i64 a1):=za g21 1;have f11:=zf g21 1;have HLp:=qqh hlp;have hu21:=zi w2 m 0 (.int .i64 (next:Int));have H21:=Y2 g21 hu21;rw[<-hm];clear hlp hlp1 g21 hu21;clear h hS hn hN hSN hroom hmay hu1 hg1 hu12 h2 hg2 hu2 hm HRm;go_upto_region 7 with fail
 refine qZb (S:=fun W=>W.cell? ⟨j,2,none⟩=some (.int .i64 (n:Int))/\W.cell? ⟨j,4,none⟩=some (.int .i64 (next:Int))) kR (by(simp only[qYh]);exact⟨c2,c4⟩) (fun hHeld=>?_);refine Wl.i [0,1,2,3,4,5,6,7,8,9,10,11,12,13,14] ?_;iterate 15 refine Wl.t hHeld ?_
 refine Wl.o ?_;refine Wl.r 15 (fun K hK=>?_);go_simp
 refine hK.o _ _ (⟨zt hHeld.1 (fun e=>hjm e.symm),zt hHeld.2 (fun e=>hjm e.symm)⟩) (fun hH1=>?_);clear hK K;refine Wl.i [16] (Wl.t hH1 (Wl.o ?_));refine Wl.r 17 (fun K hK=>?_);go_simp
 refine hK.o _ _ (⟨zt hH1.1 (fun e=>hjm e.symm),zt hH1.2 (fun e=>hjm e.symm)⟩) (fun hH2=>?_);clear hK K;refine Wl.d ?_;clear hHeld hH1 hH2 c2 c4 b0 b1 f0 f1 r1 r2 hn0 b11 f11;obtain⟨w3,hw3⟩:=qqe (((w2.setCell ⟨m,0,none⟩ (.int .i64 (next:Int))).setCell ⟨m,1,none⟩ (.int .i64 (lp:Int))).drew);rw[<-hw3];have hu3:Upd (fun k=>k=m) w2 w3:=by rw[hw3];exact(H21.o.2.trans (zi _ m 1 _)).drew
 have hg3:w3.heap[m]?=some (.cells (recC (next:Int) (lp:Int) op block slot db sum).toArray 307 (0,0)):=by
  rw[hw3];exact(((uur (fun _=>False) _).drew).jT (zh H21.o.1 1 (.int .i64 (lp:Int)))).trans oe
 obtain⟨h,hS,hn,hN,hSN,hroom,-,hmay,hu1,hg1⟩:=H.o;obtain⟨h2,hg2,hu12,hm⟩:=H2.o;have hjs:∀k,Al j vw k->¬k=m:=fun k hk e=>by have:=h.slt k hk;omega
 have h3:=h2.keep hu3 hjs;have hN3:Nib w3:=(hN.keep hu12 id).keep hu3 (fun e=>by have:=hN.lt;omega);obtain⟨y,hy⟩:=qqe (sectR (recX (next:Int) (lp:Int) op block slot db sum));have hyl:y.length=64:=by rw[hy];exact uX rfl
 have HP:=qqh (QK hN3 (recC (next:Int) (lp:Int) op block slot db sum) rfl (recX (next:Int) (lp:Int) op block slot db sum) rfl (fun W=>zcy _ _ _ _ _ _ _ W));have hmay':mayR (recX (next:Int) (lp:Int) op block slot db sum)=true:=by rw[HLp.out];exact hmay
 have rX:=zg hg3;have H3:=Y7 h3 hg3 hu3 hjs hmay' hy hyl;clear h hS hn hN hSN hroom hmay hu1 hg1 h2 hg2 hu12 hm hjs h3 hN3 hmay' hy hw3 hu3 hg3;go_wp2_with (first
  |(refine qYy rfl _ _ rfl _ _ rfl _ _ rX underlying307 rfl (by rw[show(recC (next:Int) (lp:Int) op block slot db sum).length=7 from rfl];exact infoThR) ?_)
  |fail)
 refine HP.o.mono ?_;rintro e w4 ⟨he,hb4⟩;obtain rfl:e=.returned (.tuple #[.agg (bkC y).toArray,.int .i64 0]):=by
  rcases he with⟨-,he⟩|⟨hf,-⟩
  .rw [he,H3.o.2.2.2.2.2.1]
  .rw [H3.o.2.2.2.2.1]at hf;cases hf
 have hu4:=qqb hb4;obtain⟨w5,hw5⟩:=qqe (w4.alloc (.cells (bkC y).toArray 60));have hu5:=qqu hw5;have hg5:=qqg hw5;have hu35:=hu4.trans hu5;have h5:=H3.o.1.new hu35;have hyl:=H3.o.2.2.2.2.2.2;have siY:=qqh (zq y hyl);have oneY:=qqh (zu y);have lnY:Hid ((bkC y).length=64):=by show _=_;rw[zm,hyl]
 obtain⟨i,z,hi,hz,hzs,hsz,hby⟩:=xL;have hu:Upd (fun _=>False) w5 (w5.alloc (.cells (wrC (next:Int) y).toArray 365)).drew:=((uur _ _).alloc _).drew;have hd:=h5.new hu;have hrd:Rd (w5.alloc (.cells (wrC (next:Int) y).toArray 365)).drew 65 (.slice (some ⟨w5.heap.size,0,none⟩) 1 1) 1 (wrC (next:Int) y):=
  Rd.keep (Rd.fresh w5 (wrC (next:Int) y) 365 1 (by rw[wrC_len,hyl]) oj) ((uur (fun _=>False) _).drew) (fun _ _ h=>h)
 have hWl:W.length<=1024:=by have:=H.o.1.good;have:=this.wl;have:=H.o.2.2.2.2.2.1;omega
 obtain⟨v',w6,hrun,hs1,hu6,hbf⟩:=yu 317 317 i z 72 underlying317 hi hz hsz hby hzs de hd.ws hrd (vU (next:Int) y) oj oM;rw[<-Yr]at hs1;have hln:W.length+1=(W++[(next,y)]).length:=oe;rw[hln]at hs1;obtain⟨ao1,c1',rfl⟩:=hs1.rd.jU;have hstr6:=(hu6.block j (zd hd.str) (fun e=>hd.wb e)).trans hd.str;have k5:=za hstr6 5;have z5:=zf hstr6 5;have k4:=za hstr6 4;simp at k4 k5;obtain⟨-,-,-,-,c4,c5⟩:=h5.c;have hg5m:=hu35.jT H3.o.2.1;have rY:=zg hg5;have hbl:=Tb (next:Int) y hyl;have hut:=underlying60;have hsi:=zq y hyl;have hlx:(bkC y).length=64:=by rw[zm,hyl]
 have h1x:=zu y;obtain⟨p6,hp6⟩:=qqe (w4.heap.size);rw[<-hp6]at rY hg5;have hvlt:∀g,vw.ownBlock=some g->g<w.heap.size:=fun g hg=>H.o.1.ws.lt hg;have hmw:=H2.o.2.2.2;have hsz4:w.heap.size<w4.heap.size:=by
  have h1:=zd H3.o.2.1;have h2:=hu4.size;omega
 have q4:=hu6.jS (zl c4 _) (fun e=>hd.wb e);have qY:=hu6.range (qYi rY _) (fun e=>by have:=hvlt _ e;omega);have hjp:¬j=p6:=by have:=zd H.o.1.str;omega
 have d5:=zl c5 (.cells (wrC (next:Int) y).toArray 365);have n4:=World.new_ne w5 _ c5;have HX:=Y9 hbf hu hu6 hs1 hstr6 hu35 hg5m hvlt hsz4;have HW5:=qqh hw5;have HP6:=qqh hp6;clear hbf hu hu6 hs1 hstr6 hu35 hg5m hvlt hsz4 hd hrd hb4 he hu4 hu5 h5 hw5 rX hln hmw hp6 hWl;go_wp2_with (first
  |(refine zk rfl _ _ _ rfl _ _ _ rfl rfl (by rw[lnY.out];rfl) siY.out oneY.out ?_)
  |fail)
 rw[<-HW5.o,<-HP6.o];refine qZb (S:=fun W=>W.cell? ⟨j,4,none⟩=some (.int .i64 (next:Int))/\W.rangeAt p6 0 (bkC y)) kR (⟨by rw[qYh];exact c4,by rw[qYj];exact rY⟩) (fun hHeld=>?_);refine Wl.i [0,1,2,3,5,6,7,8] ?_;iterate 8 refine Wl.t hHeld ?_
 refine Wl.o ?_;refine Wl.l 9 (fun w h=>h.2) hut hsi hHeld ?_;refine Wl.i [10] (Wl.t hHeld (Wl.o ?_));refine qYw (rs:=[4,11]) kR oe ?_;refine qxb rfl (fun K hK=>?_) (qxb rfl (fun K hK=>?_) qxc)
 .go_simp
  refine hK.o _ _ ((by(go_split_ands;(simp only[qYj,qYh]at*);((repeat' constructor)<;>first|assumption|(apply zl;assumption)|(refine zt ?_ ?_<;>assumption)|(refine zA ?_ ?_<;>assumption)|(apply qYi;assumption)|(apply qYm;assumption))))) (fun hH1=>?_);clear hK K;refine Wl.r 11 (fun K hK=>?_);go_simp
  refine hK.o _ _ ((by(go_split_ands;(simp only[qYj,qYh]at*);((repeat' constructor)<;>first|assumption|(apply zl;assumption)|(refine zt ?_ ?_<;>assumption)|(refine zA ?_ ?_<;>assumption)|(apply qYi;assumption)|(apply qYm;assumption))))) (fun hH2=>?_);clear hK K;refine Wl.r 12 (fun K hK=>?_);refine zU rfl _ _ _ rfl rfl rfl hrun ?_;refine hK.o _ _ (⟨q4,qY⟩) (fun hH3=>?_);clear hK K;refine Wl.i [13,14] ?_;iterate 2 refine Wl.t hH3 ?_
  refine Wl.o ?_;refine Wl.r 15 (fun K hK=>?_);go_simp
  refine hK.o _ _ (⟨wN hH3.1 de,zA hH3.2 hjp⟩) (fun _=>?_);clear hK K;refine Wl.d ?_;clear hH1 hH2 hH3 hHeld k5 z5 c4 c5 rY hbl hut hsi hlx h1x q4 qY d5 n4 hrun k4 hyl;obtain⟨hbf,hu,hu6,hs1,hstr6,hu35,hg5m,hvlt,hsz4⟩:=HX.o;have hl':(W++[(next,y)]).length=W.length+1:=oe;rw[hl']at hs1 hbf;obtain⟨u,hu0⟩:∃u:Value,u=.slice ao1 (W.length+1) c1':=⟨_,rfl⟩
  rw[<-hu0]at hs1 hbf;obtain⟨w7,hw7⟩:=qqe (w6.setCell ⟨j,5,none⟩ (.slice ao1 (W.length+1) c1'));rw[<-hw7];have hu7:Upd (fun k=>k=j) w6 w7:=by rw[hw7];exact zi _ _ _ _
  have g7:w7.heap[j]?=some (.cells #[.pointer (some ⟨d,0,none⟩),.int .i64 base,.int .i64 n,.int .i64 cov,.int .i64 next,u] 319 (0,0)):=by rw[hw7,hu0];exact(zh hstr6 5 _).trans oe
  have d4:w7.cell? ⟨j,4,none⟩=some (.int .i64 (next:Int)):=za g7 4;have z4:=zf g7 4;have hnm:¬m=j:=fun e=>hjm e.symm;have hg7m:=(hu7.block m (qXr (zd hg5m) (qXq hu.size hu6.size)) hnm).trans ((hu6.block m (qXr (zd hg5m) hu.size) (fun e=>by have:=hvlt m e;have:=H2.o.2.2.2;omega)).trans (hu.jT hg5m));have m0:(w7.setCell ⟨j,4,none⟩ (.int .i64 ((next:Int)+1))).cell? ⟨m,0,none⟩=some (.int .i64 (next:Int)):=zt (za hg7m 0) (fun e=>hnm e.symm);have r1:IntKind.i64.wrap ((next:Int)+1)=(next:Int)+1:=qxu _ oM;have HY:=Y5 hs1 hbf hu7 g7 hu0;clear hbf hu hu6 hs1 hstr6 hu35 hg5m hvlt hsz4 hl' hu0 hw7 hu7 g7 hg7m hnm;go_wp2
  go_ret2
  obtain⟨hs1,hbf,hu7,g7,hu0⟩:=HY.o;obtain⟨-,hu,hu6,-,-,hu35,-,hvlt,hsz4⟩:=HX.o;obtain⟨h,hS,hn,-⟩:=H.o;have hU5:Upd S w w5:=((H2.o.2.2.1.mono fE).trans (H3.o.2.2.1.mono (fun k _ e=>hn k (by rw[e,H2.o.2.2.2];exact qXo _)))).trans (hu35.mono fE);have hU6:Upd S w w6:=hU5.trans ((hu.mono fE).trans (hu6.mono (fun k _ hk=>hS k (.inr hk))));have hub:u.ownBlock≠some j:=fun e=>by
   rcases hbf with h1|⟨g,h1,hle⟩
   .exact h.wb (by rw[<-h1];exact e)
   .rw [h1]at e;cases e;have:=zd h.str;have:=hU5.size;have:=hu.size;omega
  have hu8:Upd (fun k=>k=j) w7 (w7.setCell ⟨j,4,none⟩ (.int .i64 ((next:Int)+1))):=zi _ _ _ _;have hyy:sectR (jaddX next n op block slot db sum)=y:=by rw[H3.o.2.2.2.2.2.1,HLp.out]
  rw[hyy];refine⟨rfl,⟨u,⟨(zh g7 4 _).trans oe,?_,hub,h.good.add H.o.2.2.2.2.2.1 hmx H3.o.2.2.2.2.2.2⟩,?_⟩,hU6.trans ((hu7.trans hu8).mono (fun k _ e=>e▸hS j (.inl rfl)))⟩
  .rw [qyy];exact(hs1.ky hu7 hub).ky hu8 hub
  .rintro k (rfl|hk)
   .exact hS _ (.inl rfl)
   .rcases hbf with h1|⟨g,h1,hle⟩
    .exact hS _ (.inr (by rw[<-h1];exact hk))
    .rw [h1]at hk;cases hk;exact hn _ (by have:=hU5.size;have:=hu.size;omega)
 .go_simp
  refine hK.o _ _ ((by(go_split_ands;(simp only[qYj,qYh]at*);((repeat' constructor)<;>first|assumption|(apply zl;assumption)|(refine zt ?_ ?_<;>assumption)|(refine zA ?_ ?_<;>assumption)|(apply qYi;assumption)|(apply qYm;assumption))))) (fun hH1=>?_);clear hK K;refine Wl.r 4 (fun K hK=>?_);go_simp
  refine hK.o _ _ ((by(go_split_ands;(simp only[qYj,qYh]at*);((repeat' constructor)<;>first|assumption|(apply zl;assumption)|(refine zt ?_ ?_<;>assumption)|(refine zA ?_ ?_<;>assumption)|(apply qYi;assumption)|(apply qYm;assumption))))) (fun hH2=>?_);clear hK K;refine Wl.r 12 (fun K hK=>?_);refine zU rfl _ _ _ rfl rfl rfl hrun ?_;refine hK.o _ _ (⟨q4,qY⟩) (fun hH3=>?_);clear hK K;refine Wl.i [13,14] ?_;iterate 2 refine Wl.t hH3 ?_
  refine Wl.o ?_;refine Wl.r 15 (fun K hK=>?_);go_simp
  refine hK.o _ _ (⟨wN hH3.1 de,zA hH3.2 hjp⟩) (fun _=>?_);clear hK K;refine Wl.d ?_;clear hH1 hH2 hH3 hHeld k5 z5 c4 c5 rY hbl hut hsi hlx h1x q4 qY d5 n4 hrun k4 hyl;obtain⟨hbf,hu,hu6,hs1,hstr6,hu35,hg5m,hvlt,hsz4⟩:=HX.o;have hl':(W++[(next,y)]).length=W.length+1:=oe;rw[hl']at hs1 hbf;obtain⟨u,hu0⟩:∃u:Value,u=.slice ao1 (W.length+1) c1':=⟨_,rfl⟩
  rw[<-hu0]at hs1 hbf;obtain⟨w7,hw7⟩:=qqe (w6.setCell ⟨j,5,none⟩ (.slice ao1 (W.length+1) c1'));rw[<-hw7];have hu7:Upd (fun k=>k=j) w6 w7:=by rw[hw7];exact zi _ _ _ _
  have g7:w7.heap[j]?=some (.cells #[.pointer (some ⟨d,0,none⟩),.int .i64 base,.int .i64 n,.int .i64 cov,.int .i64 next,u] 319 (0,0)):=by rw[hw7,hu0];exact(zh hstr6 5 _).trans oe
  have d4:w7.cell? ⟨j,4,none⟩=some (.int .i64 (next:Int)):=za g7 4;have z4:=zf g7 4;have hnm:¬m=j:=fun e=>hjm e.symm;have hg7m:=(hu7.block m (qXr (zd hg5m) (qXq hu.size hu6.size)) hnm).trans ((hu6.block m (qXr (zd hg5m) hu.size) (fun e=>by have:=hvlt m e;have:=H2.o.2.2.2;omega)).trans (hu.jT hg5m));have m0:(w7.setCell ⟨j,4,none⟩ (.int .i64 ((next:Int)+1))).cell? ⟨m,0,none⟩=some (.int .i64 (next:Int)):=zt (za hg7m 0) (fun e=>hnm e.symm);have r1:IntKind.i64.wrap ((next:Int)+1)=(next:Int)+1:=qxu _ oM;have HY:=Y5 hs1 hbf hu7 g7 hu0;clear hbf hu hu6 hs1 hstr6 hu35 hg5m hvlt hsz4 hl' hu0 hw7 hu7 g7 hg7m hnm;go_wp2
  go_ret2
  obtain⟨hs1,hbf,hu7,g7,hu0⟩:=HY.o;obtain⟨-,hu,hu6,-,-,hu35,-,hvlt,hsz4⟩:=HX.o;obtain⟨h,hS,hn,-⟩:=H.o;have hU5:Upd S w w5:=((H2.o.2.2.1.mono fE).trans (H3.o.2.2.1.mono (fun k _ e=>hn k (by rw[e,H2.o.2.2.2];exact qXo _)))).trans (hu35.mono fE);have hU6:Upd S w w6:=hU5.trans ((hu.mono fE).trans (hu6.mono (fun k _ hk=>hS k (.inr hk))));have hub:u.ownBlock≠some j:=fun e=>by
   rcases hbf with h1|⟨g,h1,hle⟩
   .exact h.wb (by rw[<-h1];exact e)
   .rw [h1]at e;cases e;have:=zd h.str;have:=hU5.size;have:=hu.size;omega
  have hu8:Upd (fun k=>k=j) w7 (w7.setCell ⟨j,4,none⟩ (.int .i64 ((next:Int)+1))):=zi _ _ _ _;have hyy:sectR (jaddX next n op block slot db sum)=y:=by rw[H3.o.2.2.2.2.2.1,HLp.out]
  rw[hyy];refine⟨rfl,⟨u,⟨(zh g7 4 _).trans oe,?_,hub,h.good.add H.o.2.2.2.2.2.1 hmx H3.o.2.2.2.2.2.2⟩,?_⟩,hU6.trans ((hu7.trans hu8).mono (fun k _ e=>e▸hS j (.inl rfl)))⟩
  .rw [qyy];exact(hs1.ky hu7 hub).ky hu8 hub
  .rintro k (rfl|hk)
   .exact hS _ (.inl rfl)
   .rcases hbf with h1|⟨g,h1,hle⟩
    .exact hS _ (.inr (by rw[<-h1];exact hk))
    .rw [h1]at hk;cases hk;exact hn _ (by have:=hU5.size;have:=hu.size;omega)
def needN(n:Nat):Nat:=(n-1)/4+1
def partE(E:List Ent)(k:Nat):List Ent:=(E.drop (4*k)).take 4
def padE(l:List Ent):List Ent:=l++List.replicate (4-l.length) Ent.none
def pageXs(seq need:Nat)(E:List Ent)(k:Nat):List Int:=natsI (pgN seq k need (partE E k).length (padE (partE E k)))
def zZ(seq:Nat)(E:List Ent)(k:Nat):List Bk:=(List.range k).map fun i=>sectP (pageXs seq (needN E.length) E i)
def pagesB(seq:Nat)(E:List Ent):List Bk:=zZ seq E (needN E.length)
def YW(x:Ent):Prop:=x.b<=4095/\x.s<=1023/\x.m<=4294967295
theorem tU(E:List Ent)(k:Nat):(partE E k).length<=4:=by simp[partE];omega
theorem tV{l:List Ent}(h:l.length<=4):(padE l).length=4:=by simp[padE];omega
theorem Tc(L:List Ent):(L.flatMap entN).length=L.length*4:=by
 induction L with
 |nil=>rfl
 |cons x L ih=>rw[qye,qyy,ih,qyz,show(entN x).length=4 from rfl];omega
theorem yW(seq need:Nat)(E:List Ent)(k:Nat):(pageXs seq need E k).length=20:=by
 have h:=tV (tU E k);have:((padE (partE E k)).flatMap entN).length=16:=by rw[Tc,h]
 simp[pageXs,natsI,pgN,this]
theorem sG(seq no of many:Nat)(L:List Ent){i:Nat}(hi:i<L.length):rowI (natsI (pgN seq no of many L)) i=natsI (entN (L.getD i Ent.none)):=by
 have h:∀(L:List Ent) (i:Nat),i<L.length->((natsI (L.flatMap entN)).drop (4*i)).take 4=natsI (entN (L.getD i Ent.none)):=by
  intro L
  induction L with
  |nil=>intro i h;simp at h
  |cons x L ih=>
   intro i hi;cases i with
   |zero=>rfl
   |succ i=>
    have e:natsI ((x::L).flatMap entN)=natsI (entN x)++natsI (L.flatMap entN):=by simp[natsI]
    rw[e,show 4*(i+1)=(natsI (entN x)).length+4*i by simp[natsI,entN];omega,List.drop_length_add_append];simpa using ih i ox
 rw[<-h L i hi];simp only[rowI];rw[<-List.drop_drop];rfl
theorem uY{seq:Nat}{E:List Ent}(hs:seq<=1099511627776)(hE:∀x∈E,YW x)(hn:needN E.length<=256){k:Nat}(hk:k<needN E.length):mayP (pageXs seq (needN E.length) E k)=true:=by
 have hp:=tU E k;have hl:=tV hp;simp only[mayP,qxo,decide_eq_true_eq];refine⟨⟨?_,?_⟩,?_⟩
 .simp [withinB,bndP,pageXs,natsI,pgN,inB];omega
 .simp [pageXs,natsI,pgN];omega
 .unfold entsB;rw[qxv];intro i hi;have hi4:i<4:=by simpa using hi
  unfold entB;have h3:(pageXs seq (needN E.length) E k).getD 3 0=((partE E k).length:Int):=by simp[pageXs,natsI,pgN]
  rw[h3];unfold pageXs;rw[sG _ _ _ _ _ oM];split
  .rename_i hlt
   have hlt':i<(partE E k).length:=oM;have e:(padE (partE E k)).getD i Ent.none=(partE E k)[i]:=by
    simp[padE,List.getD_eq_getElem?_getD,List.getElem?_append_left hlt',hlt']
   rw[e];have hm:(partE E k)[i]∈E:=List.mem_of_mem_drop (List.mem_of_mem_take (qyu hlt'));obtain⟨a1,a2,a3⟩:=hE _ hm;generalize (partE E k)[i]=x at*;simp[withinB,bndE,natsI,entN,inB];have:bitN x.d<=1:=by unfold bitN;split<;>omega
   omega
  .rename_i hge
   have e:(padE (partE E k)).getD i Ent.none=Ent.none:=by
    simp only[padE,qyf];rw[qyh oM,qyn];split<;>rfl
   rw[e];simp[natsI,entN,Ent.none,bitN]
theorem ur(seq:Nat)(E:List Ent)(k:Nat):zZ seq E (k+1)=zZ seq E k++[sectP (pageXs seq (needN E.length) E k)]:=by simp[zZ,List.range_succ]
theorem xH(seq:Nat)(E:List Ent)(k:Nat):(zZ seq E k).length=k:=by simp[zZ]
theorem Wo(seq:Nat)(E:List Ent)(k:Nat):All64 (zZ seq E k):=by
 intro x hx;simp only[zZ,qzq]at hx;obtain⟨i,-,rfl⟩:=hx;exact xS (yW _ _ _ _)
theorem qM(n:Nat)(h2:n<=100000)(w:World):Calls prog 31 #[.int .i64 (n:Int)] w fun e w'=>e=.returned (.int .i64 (needN n:Int))/\w=w':=by
 by_cases h1:1<=n
 .exact need_any n h1 h2 w
 .obtain rfl:n=0:=oM;go_enter func31,ntmps31
  go_wp2
  go_ret
  exact⟨rfl,rfl⟩
theorem QM:(prog.info? 60).map (fun i=>(i.zero.map (·.cells.size),i.size,i.bytes))=some (some 64,64,64):=kR
theorem yj:∃i z,prog.info? 60=some i/\i.zero=some z/\z.cells.size=64/\i.size=64/\i.bytes=64:=by
 obtain⟨i,hi,h⟩:=qYb.1 QM;simp only[qYd]at h;obtain⟨h1,h2,h3⟩:=h;obtain⟨z,hz,hs⟩:=qYb.1 h1;exact⟨i,z,hi,hz,hs,h2,h3⟩
theorem Wp(v:Value)(hv:v.cells.size=64)(w:World):(Instr.buildSlice 32 1 #[(0,v)]).run prog w=.ok (.slice (some ⟨w.heap.size,0,none⟩) 1 1) (w.alloc (.cells v.cells 60)):=by
 obtain⟨i,z,hi,hz,hs,hsz,_⟩:=yj;refine run_buildSlice w _ _ 1 _ _ i z underlying32 hi hz ju ju ?_;obtain⟨a1,a2⟩:=yM 0 v.cells ((Array.range (1*i.size)).map (z.cells[·%z.cells.size]!));rw[show(#[(0,v)]:Array (Nat×Value)).toList=[(0,v)]from rfl];rw[xl _ _ 0 0 64 v _ jC hv jC];show some _=_
 congr 1
 apply qxd
 intro k;rw[a2 k];by_cases hk:k<64
 .rw [if_pos ⟨oM,oM,by simp[hsz];omega⟩];rfl
 .rw [if_neg oM,qxf jP,qxf oM]
theorem AZ(seq no of m:Nat)(L:List Ent)(hL:L.length=m)(hm:m<=4)(P0:List Value)(h0:P0=[.int .i64 (seq:Int),.int .i64 (no:Int),.int .i64 (of:Int),.int .i64 (m:Int)]++(List.replicate 4 Ent.none).flatMap entC):
  P0.take 4++(L.flatMap entC++P0.drop (4+(L.flatMap entC).length))=pgC seq no of m (padE L):=by
 subst h0;rw[xQ,hL];have h1:([Value.int .i64 (seq:Int),.int .i64 (no:Int),.int .i64 (of:Int),.int .i64 (m:Int)]++(List.replicate 4 Ent.none).flatMap entC).drop (4+m*4)=(List.replicate (4-m) Ent.none).flatMap entC:=by
  have:m=0\/m=1\/m=2\/m=3\/m=4:=oM;rcases this with rfl|rfl|rfl|rfl|rfl<;>rfl
 rw[h1,pgC,padE,hL,qyd];rfl
def pg0(seq k nd m:Nat):Array Value:= #[.int .i64 (seq:Int),.int .i64 (k:Int),.int .i64 (nd:Int),.int .i64 (m:Int),.int .i64 0,.int .i64 0,.bool false,.int .i64 0,.int .i64 0,.int .i64 0,.bool false,.int .i64 0,.int .i64 0,.int .i64 0,.bool false,.int .i64 0,.int .i64 0,.int .i64 0,.bool false,.int .i64 0]
theorem JH{w:World}{b:Nat}{T:TypeId}(seq k nd m:Nat)(L:List Ent)(hL:L.length=m)(hm:m<=4)(h:w.heap[b]?=some (.cells ((pg0 seq k nd m).toList.take 4++(L.flatMap entC++(pg0 seq k nd m).toList.drop (4+(L.flatMap entC).length))).toArray T (0,0))):
  w.heap[b]?=some (.cells (pgC seq k nd m (padE L)).toArray T (0,0)):=by
 rw[h,AZ seq k nd m L hL hm (pg0 seq k nd m).toList rfl]
theorem qN(seq k nd m:Nat):(pg0 seq k nd m).size=20:=rfl
theorem VB(seq no of m:Nat){L:List Ent}(h:L.length=4):(pgC seq no of m L).length=20:=by
 rw[pgC,qyy,xQ,h];rfl
theorem Wq{w:World}{g o:Nat}{E:List Ent}(hr:w.rangeAt g o (E.flatMap entC))(k:Nat):w.rangeAt g (o+k*4*4) ((partE E k).flatMap entC):=by
 have hd:∀(E:List Ent) (n:Nat),(E.drop n).flatMap entC=(E.flatMap entC).drop (n*4):=by
  intro E
  induction E with
  |nil=>intro n;simp
  |cons x E ih=>
   intro n;cases n with
   |zero=>simp
   |succ n=>rw[List.drop_succ_cons,ih,qye,show(n+1)*4=(entC x).length+n*4 by rw[qA];omega,List.drop_length_add_append]
 have ht:∀(E:List Ent) (n:Nat),(E.take n).flatMap entC=(E.flatMap entC).take (n*4):=by
  intro E
  induction E with
  |nil=>intro n;simp
  |cons x E ih=>
   intro n;cases n with
   |zero=>simp
   |succ n=>rw[List.take_succ_cons,qye,ih,qye,show(n+1)*4=(entC x).length+n*4 by rw[qA];omega,List.take_length_add_append]
 intro j v hv;rw[partE,ht,hd,qyp]at hv;split at hv
 .rw [qyi]at hv;have:=hr _ v hv;rw[show o+k*4*4+j=o+(4*k*4+j) by omega];exact this
 .cases hv
def xr(w:World)(seq:Nat)(E:List Ent)(e:Ending)(w':World):Prop:=∃v,e=.returned (.tuple #[v,.int .i64 0])/\Sl w' 60 64 v (needN E.length) (rowC (pagesB seq E))/\From w.heap.size v/\Below w.heap.size w w'
theorem Td(w:World):Calls prog 31 #[.int .i64 0] w fun e w'=>e=.returned (.int .i64 1)/\w=w':=qM 0 oM w
theorem rT{P:Program}(w:World)(dT sT ty elem:TypeId)(k g o:Nat)(dl dc:Nat)(hu:P.underlying dT=some (.slice elem))(hs:(P.info? elem).map (·.size)=some k):
  (Builtin.copy_ #[dT,sT] ty #[.slice (some ⟨g,o,none⟩) dl dc,.slice none 0 0]).run P w=.ok (.int .i64 0) w:=by
 cases hq:P.info? elem with
 |none=>simp[hq]at hs
 |some i=>simp[Builtin.copy_,run_underlying hu,Builtin.lenOf,Builtin.firstCells,sizeOf,typeInfo,hq,storeCells,goInt]
theorem zaa(seq:Nat):(pg0 seq 0 1 0)=(pgC seq 0 1 0 (padE (partE [] 0))).toArray:=rfl
theorem wE{ops:Array Oper}{rest:List Oper}{op:Oper}{a:Act}{w:World}{Q:Exit->Act->World->Prop}(hgd:op.guard=none)(p q r s:Operand)(ho:op.op=.build 297 #[(0,p),(1,q),(2,r),(3,s)])
  (x k nd m:Nat) (hp:a.eval p=.int .i64 (x:Int)) (hq:a.eval q=.int .i64 (k:Int)) (hr:a.eval r=.int .i64 (nd:Int)) (hs:a.eval s=.int .i64 (m:Int)) (PG:Array Value) (hPG:PG=pg0 x k nd m)
  (h:wpList prog ops Q rest (a.put op.dst (.agg PG)) w):wpList prog ops Q (op::rest) a w:=by
 have hrun:(Instr.build 297 #[(0,.int .i64 (x:Int)),(1,.int .i64 (k:Int)),(2,.int .i64 (nd:Int)),(3,.int .i64 (m:Int))]).run prog w=.ok (.agg PG) w:=by
  rw[hPG];kernel_rfl
 refine qYz hgd fun K' hK'=>?_;unfold Oper.wp;simp only[execOp,ho,qzk,qzh,qzj,hp,hq,hr,hs,qYf,hrun,qYe];exact hK' _ _ h
theorem xt(F:List Bk)(x:Bk):rowC (F++[x])=rowC F++bkC x:=by simp[rowC]
theorem Wr{w:World}{g o n c:Nat}(E:List Ent)(hE:E.length=n)(h1:1<=n)(h2:n<=1024)(hr:w.rangeAt g o (E.flatMap entC))(hc:n<=c)(hm:c<=maxLen)(seq:Nat)(hs:seq<=1099511627776)(hok:∀x∈E,YW x)(hN:Nib w):
  Calls prog 130 #[.int .i64 (seq:Int),.slice (some ⟨g,o,none⟩) n c] w (xr w seq E):=by
 obtain⟨i0,hi,hb0⟩:=qYb.1 QM;simp only[qYd]at hb0;obtain⟨hb1,hb2,hb3⟩:=hb0;obtain⟨z,hz,hzs⟩:=qYb.1 hb1;have hq:needN n<=256:=by unfold needN;omega
 obtain⟨Z,hZ,hmk⟩:∃Z:Array Value,Z.size=needN n*64/\∀w:World,(Instr.makeSlice 32 (.int .i64 0) (.int .i64 (needN n:Int))).run prog w=.ok (.slice (some ⟨w.heap.size,0,none⟩) 0 (needN n)) (w.alloc (.cells Z 60)):=by
  refine⟨madeCells z.cells (needN n*64),by simp[size_madeCells],fun w=>?_⟩;have:=run_make (P:=prog) w 32 60 i0 z underlying32 hi hz .i64 .i64 0 (needN n) oM oM (by rw[hb3];omega) oM;rw[this];simp only[qxt,hb2];rfl
 have HK:=Y5 hi hz hzs hb2 hb3;have H:=Y6 hr hs hok hN hE hZ;have hgl:g<w.heap.size:=by
  have:=hr 0 (.int .i64 ((E[0]'oM).b:Int)) (by
   have h0:0<E.length:=oM;obtain⟨x,l,rfl⟩:∃x l,E=x::l:=by cases E with|nil=>simp at h0|cons x l=>exact⟨x,l,rfl⟩
   rfl)
  exact(zJ this).2
 have hq1:1<=needN n:=by unfold needN;omega
 have hqn:∀k,k<needN n->4*k<n:=fun k hk=>by unfold needN at hk;omega
 have hqm:needN n<=n:=by unfold needN;omega
 have HQ:=Y2 hqn hqm;unfold maxLen at hm;clear hr hs hok hN hE hi hz hzs hb1 hb2 hb3 hZ hqn;generalize hnd:needN n=nd at*;have HND:=qqh hnd;go_enter func130,ntmps130
 go_wp2_with (first
  |(go_at_call 31;refine(qM n oM _).mono ?_;rintro e w' ⟨rfl,rfl⟩;rw[hnd];clear hnd)
  |fail)
 have hg0:=zc w (.cells Z 60) rfl;have hb0:Below w.heap.size w (w.alloc (.cells Z 60)):=(qxl _ w).alloc (qXo _) _;have hsl0:Sl (w.alloc (.cells Z 60)) 60 64 (.slice (some ⟨w.heap.size,0,none⟩) 0 nd) 0 (rowC (zZ seq E 0)):=
  ⟨by simp[zZ,rowC],.inr ⟨w.heap.size,0,nd,_,rfl,hg0,qXy _,by unfold maxLen;omega,by rw[H.o.2.2.2.2.2];omega,by simp[zZ,rowC]⟩⟩
 have hf0:From w.heap.size (.slice (some ⟨w.heap.size,0,none⟩) 0 nd):=fun g hg=>by simp[Value.ownBlock]at hg;omega
 generalize w.alloc (.cells Z 60)=w1 at*;have H1:=Y3 hsl0 hf0 hb0;clear hg0 hb0 hsl0 hf0 hmk;go_loopw[7,21] (fun s7 s21 wr=>∃k:Nat,k<=nd/\s21=.int .i64 k/\Sl wr 60 64 s7 k (rowC (zZ seq E k))/\From w.heap.size s7/\Below w.heap.size w wr) (fun _ s21 _=>nd-(intOf s21).toNat)
 case atStart=>exact⟨0,oM,rfl,H1.o.1,H1.o.2.1,H1.o.2.2⟩
 case round=>
  obtain⟨k,hk,rfl,hsl,hf,hb⟩:=hrel;by_cases hlt:k<nd
  .have h4:=HQ.o.1 k hlt;have b1:(0:Int)<=(k:Int):=oM;have HS:=Y3 hsl hf hb;obtain⟨ao,cc,rfl⟩:=hsl.rd.jU;obtain⟨m,hm1⟩:=qqe ((partE E k).length);have hmE:m=min 4 (n-4*k):=by rw[hm1,partE,qzf,qza,H.o.2.2.2.2.1]
   have hm4:m<=4:=oM;have hmin:Nat.min m 4=m:=Nat.min_eq_left hm4;obtain⟨PG,hPG⟩:∃PG:List Value,PG.toArray=pg0 seq k nd m:=⟨(pg0 seq k nd m).toList,rfl⟩
   have hPGl:PG.length=20:=(congrArg Array.size hPG).trans (qN seq k nd m);have hPG1:∀v∈PG,v.oneCell'=true:=by
    intro v hv;have hv':v∈pg0 seq k nd m:=by rw[<-hPG];simpa using hv
    simp only[pg0,Array.mem_def,qzm,qzy,qYt]at hv';rcases hv' with rfl|rfl|rfl|rfl|rfl|rfl|rfl|rfl|rfl|rfl|rfl|rfl|rfl|rfl|rfl|rfl|rfl|rfl|rfl|rfl<;>rfl
   obtain⟨w0,hw0⟩:=qqe (wr.alloc (.cells PG.toArray 297));have hg0:w0.heap[wr.heap.size]?=some (.cells (pg0 seq k nd m) 297):=by rw[hw0,<-hPG];exact zc wr _ rfl
   have hu0:=qqu hw0;have hb0:Below w.heap.size w w0:=hb.trans ((Upd.below hu0).mono hb.size);have hr0:=Wq (Below.range hb0 H.o.1) k;obtain⟨w3,hcp,hg3,hu3,hz3⟩:=uN (P:=prog) w0 146 146 155 4 wr.heap.size 4 4 4 ⟨g,o+k*4*4,none⟩ m m _ _ ((partE E k).flatMap entC) underlying146 Zo hg0 (by rw[xQ,<-hm1,hmin])
    (fun j v hj=>by rw[qxa];exact hr0 j v hj) (by rw[xQ,<-hm1,qN];omega) (fun v hv=>by obtain⟨x,-,hx⟩:=qzp.1 hv;exact YH x v hx)
   replace hg3:=JH seq k nd m (partE E k) hm1.symm hm4 hg3;rw[hmin]at hcp;rw[hw0]at hcp;have hp4:=tV (tU E k);have hr3:=zg hg3;have hszP:(prog.info? 297).map (·.size)=some (pgC seq k nd m (padE (partE E k))).length:=by rw[VB _ _ _ _ hp4];exact wJ
   have hb3:Below w.heap.size w w3:=zj hb0 hu3 (qXo _) (fun j e=>by have:=hb.size;omega);have hput:=YV (H.o.2.2.2.1.below hb3) (pgC seq k nd m (padE (partE E k))) (VB _ _ _ _ hp4) (pageXs seq nd E k) (yW _ _ _ _) (fun W=>by rw[pageXs,<-hm1];exact Aj seq k nd m _ hp4);have hmay:Hid (mayP (pageXs seq nd E k)=true):=by
    show _=_;have:=uY (seq:=seq) (E:=E) (k:=k) H.o.2.1 H.o.2.2.1 (by rw[H.o.2.2.2.2.1,HND.o];exact hq) (by rw[H.o.2.2.2.2.1,HND.o];exact hlt);rw[H.o.2.2.2.2.1,HND.o]at this;exact this
   have hsl3:=hsl.keep ((hu0.mono fE).new hu3 (S':=fun j=>j=wr.heap.size) (fun i hi e=>e)) (fun j hj e=>by have:=hsl.lt hj;omega);have HPG:=Y3 hPG hPGl hPG1;have hsi0:Hid ((prog.info? 297).map (·.size)=some PG.length):=by show _=_;rw[hPGl];exact wJ
   have H3:=Y5 hput hsl3 hb3 hg3 hmE;clear hsl hf hb hput hsl3 hb3 hg3 hu3 hz3 hu0 hb0 hr0 hg0 hm1 hw0 hmE hPG hPGl hPG1;have hbr:((k:Int)*4+4<=(n:Int)/\k*4+4-k*4=m/\((k:Int)*4+4).toNat=k*4+4/\(k:Int)*4<=(k:Int)*4+4/\(k:Int)*4+4<=(c:Int))\/(¬(k:Int)*4+4<=(n:Int)/\n-k*4=m/\(k:Int)*4<=(n:Int)/\(n:Int)<=(c:Int)/\(n:Int)<(k:Int)*4+4):=by
    have:=H3.o.2.2.2.2;by_cases hc4:(k:Int)*4+4<=(n:Int)
    .exact .inl ⟨hc4,oM,oM,oM,oM⟩
    .exact .inr ⟨hc4,oM,oM,oM,oM⟩
   obtain⟨y,hy⟩:=qqe (sectP (pageXs seq nd E k));have hyl:(bkC y).length=64:=by rw[zm,hy];exact xS (yW _ _ _ _)
   have hy64:Hid ((prog.info? 60).map (·.size)=some (bkC y).length):=by show _=_;rw[hyl];exact zF
   have HY:=Y3 hy hyl (zu y);clear hy hyl;rcases hbr with⟨q1,q2,q3,q4,q5⟩|⟨q1,q2,q3,q4,q5⟩
   all_goals
    go_wp2_with (first
     |(refine wE rfl _ _ _ _ rfl seq k nd m oy oy oy oy PG.toArray HPG.o.1 ?_)
     |(refine zk rfl _ _ _ rfl _ _ _ rfl rfl (by rw[HPG.o.2.1];rfl) hsi0.out HPG.o.2.2 ?_)
     |(refine qYy rfl _ _ rfl _ _ rfl _ _ hr3 underlying297 rfl hszP ?_)
     |fail)
    refine H3.o.1.mono ?_;rintro e w4 ⟨hr4,hb4⟩;obtain rfl:e=.returned (.tuple #[.agg (bkC y).toArray,.int .i64 0]):=by
     rcases hr4 with⟨-,h⟩|⟨h,-⟩
     .rw [h,HY.o.1]
     .rw [hmay.out]at h;cases h
    have hA:=zc w4 (.cells (bkC y).toArray 60) rfl;have rA:=zg hA;have hu4:=qqb hb4;have hua:Upd (fun _=>False) w4 (w4.alloc (.cells (bkC y).toArray 60)):=(uur _ _).alloc _;have hsl5:=qqh ((H3.o.2.1.keep hu4 (fun _ _ h=>h)).keep hua (fun _ _ h=>h));have H4:=Y2 hu4 hua;clear hr4 hb4 hu4 hua hA q1 q2 q3 q4 q5 hcp hr3;go_wp2_with (first
     |(refine zk rfl _ _ _ rfl _ _ _ rfl rfl (by rw[HY.o.2.1];rfl) hy64.out HY.o.2.2 ?_)
     |(refine qYy rfl _ _ rfl _ _ rfl _ _ rA underlying60 rfl hy64.out ?_)
     |(refine ym rfl 32 60 _ rfl 64 de underlying32 ⟨i0,z,HK.o.1,HK.o.2.1,HK.o.2.2.1,HK.o.2.2.2.1⟩ de (bkC y) rfl HY.o.2.1 ?_)
     |(at_builtin;refine zG rfl _ _ _ rfl i0 z 64 underlying32 HK.o.1 HK.o.2.1 HK.o.2.2.2.1 HK.o.2.2.2.2 HK.o.2.2.1 de rfl hsl5.out (bkC y) oy HY.o.2.1 HY.o.2.2 oj oM ?_;intro v' w11 hs11 hu11 hbf)
     |fail)
    replace hu11:Upd (ownS (.slice ao k cc)) (w4.alloc (.cells (bkC y).toArray 60)) w11:=hu11;replace hbf:blockFrom (w4.alloc (.cells (bkC y).toArray 60)) (.slice ao k cc) v':=hbf;have HZ:=Y3 hs11 hu11 hbf;clear hs11 hu11 hbf rA;go_roundw
    case rel=>
     obtain⟨hs11,hu11,hbf⟩:=HZ.o;have hB4:Below w.heap.size w (w4.alloc (.cells (bkC y).toArray 60)):=zj H3.o.2.2.1 (H4.o.1.trans H4.o.2) (qXo _) (fun _ h=>h.elim);refine⟨k+1,oM,by go_num,?_,hbf.ge hB4.size HS.o.2.1,zj hB4 hu11 (qXo _) HS.o.2.1.own⟩;rw[ur,H.o.2.2.2.2.1,HND.o,xt];rw[HY.o.1]at hs11;exact hs11
    case measure=>simp[intOf];omega
  .obtain rfl:k=nd:=oM;have HS:=Y3 hsl hf hb;obtain⟨ao,cc,rfl⟩:=hsl.rd.jU;clear hsl hf hb;go_wp2
   go_ret2
   exact⟨_,rfl,by unfold pagesB;rw[H.o.2.2.2.2.1,HND.o];exact HS.o.1,HS.o.2.1,HS.o.2.2⟩
theorem sH{w:World}(seq:Nat)(hs:seq<=1099511627776)(hN:Nib w):
  Calls prog 130 #[.int .i64 (seq:Int),.slice none 0 0] w (xr w seq []):=by
 obtain⟨i0,z,hi,hz,hzs,hsz,hby⟩:=yj;obtain⟨Z,hZ,hmk⟩:∃Z:Array Value,Z.size=64/\∀w:World,(Instr.makeSlice 32 (.int .i64 0) (.int .i64 1)).run prog w=.ok (.slice (some ⟨w.heap.size,0,none⟩) 0 1) (w.alloc (.cells Z 60)):=by
  refine⟨madeCells z.cells (1*64),by simp[size_madeCells],fun w=>?_⟩;have:=run_make (P:=prog) w 32 60 i0 z underlying32 hi hz .i64 .i64 0 1 oM oM (by rw[hby];omega) oM;rw[this];simp only[hsz];rfl
 have HK:=Y5 hi hz hzs hsz hby;have H:=Y3 hs hN hZ;have hcp:=fun(w:World) (g:Nat) (ty:TypeId)=>rT (P:=prog) w 146 146 ty 155 4 g 4 4 4 underlying146 Zo;clear hi hz hzs hsz hby hs hN hZ;go_enter func130,ntmps130
 go_wp2_with (first
  |(go_at_call 31;refine(Td _).mono ?_;rintro e w' ⟨rfl,rfl⟩)
  |fail)
 have hg0:=zc w (.cells Z 60) rfl;have hb0:Below w.heap.size w (w.alloc (.cells Z 60)):=(qxl _ w).alloc (qXo _) _;have hsl0:Sl (w.alloc (.cells Z 60)) 60 64 (.slice (some ⟨w.heap.size,0,none⟩) 0 1) 0 (rowC (zZ seq [] 0)):=
  ⟨by simp[zZ,rowC],.inr ⟨w.heap.size,0,1,_,rfl,hg0,qXy _,by unfold maxLen;omega,by rw[H.o.2.2];omega,by simp[zZ,rowC]⟩⟩
 have hf0:From w.heap.size (.slice (some ⟨w.heap.size,0,none⟩) 0 1):=fun g hg=>by simp[Value.ownBlock]at hg;omega
 generalize w.alloc (.cells Z 60)=w1 at*;have H1:=Y3 hsl0 hf0 hb0;clear hg0 hb0 hsl0 hf0 hmk;go_loopw[7,21] (fun s7 s21 wr=>∃k:Nat,k<=1/\s21=.int .i64 k/\Sl wr 60 64 s7 k (rowC (zZ seq [] k))/\From w.heap.size s7/\Below w.heap.size w wr) (fun _ s21 _=>1-(intOf s21).toNat)
 case atStart=>exact⟨0,oM,rfl,H1.o.1,H1.o.2.1,H1.o.2.2⟩
 case round=>
  obtain⟨k,hk,rfl,hsl,hf,hb⟩:=hrel;by_cases hlt:k<1
  .obtain rfl:k=0:=oM;have HS:=Y3 hsl hf hb;obtain⟨ao,cc,rfl⟩:=hsl.rd.jU;obtain⟨PG,hPG⟩:∃PG:List Value,PG.toArray=pg0 seq 0 1 0:=⟨(pg0 seq 0 1 0).toList,rfl⟩
   have hPGl:PG.length=20:=(congrArg Array.size hPG).trans (qN seq 0 1 0);have hPG1:∀v∈PG,v.oneCell'=true:=by
    intro v hv;have hv':v∈pg0 seq 0 1 0:=by rw[<-hPG];simpa using hv
    simp only[pg0,Array.mem_def,qzm,qzy,qYt]at hv';rcases hv' with rfl|rfl|rfl|rfl|rfl|rfl|rfl|rfl|rfl|rfl|rfl|rfl|rfl|rfl|rfl|rfl|rfl|rfl|rfl|rfl<;>rfl
   have hu0:Upd (fun _=>False) wr (wr.alloc (.cells PG.toArray 297)):=(uur _ wr).alloc _;have hr3:=zg (zc wr (.cells PG.toArray 297) rfl);have hb3:Below w.heap.size w (wr.alloc (.cells PG.toArray 297)):=hb.trans ((Upd.below hu0).mono hb.size);have hPGe:PG=pgC seq 0 1 0 (padE (partE [] 0)):=by have:=congrArg Array.toList (hPG.trans (zaa seq));simpa using this
   have hp4:(padE (partE [] 0)).length=4:=rfl;have hput:=YV (H.o.2.1.below hb3) PG hPGl (pageXs seq 1 [] 0) (yW _ _ _ _) (fun W=>by rw[hPGe];exact Aj seq 0 1 0 _ hp4);have hmay:Hid (mayP (pageXs seq 1 [] 0)=true):=uY (seq:=seq) (E:=[]) (k:=0) H.o.1 oe de de;have hsl3:=hsl.keep hu0 (fun _ _ h=>h);have HPG:=Y3 hPG hPGl hPG1;have hsi0:Hid ((prog.info? 297).map (·.size)=some PG.length):=by show _=_;rw[hPGl];exact wJ
   have H3:=Y3 hput hsl3 hb3;obtain⟨y,hy⟩:=qqe (sectP (pageXs seq 1 [] 0));have hyl:(bkC y).length=64:=by rw[zm,hy];exact xS (yW _ _ _ _)
   have hy64:Hid ((prog.info? 60).map (·.size)=some (bkC y).length):=by show _=_;rw[hyl];exact zF
   have HY:=Y3 hy hyl (zu y);clear hsl hf hb hput hsl3 hb3 hu0 hPG hPGl hPG1 hPGe hp4 hy hyl;simp only[Int.natCast_zero]at*;go_wp2_with (first
    |(refine wE rfl _ _ _ _ rfl seq 0 1 0 oy oy oy oy PG.toArray HPG.o.1 ?_)
    |(refine zk rfl _ _ _ rfl _ _ _ rfl rfl (by rw[HPG.o.2.1];rfl) hsi0.out HPG.o.2.2 ?_)
    |(refine qYy rfl _ _ rfl _ _ rfl _ _ hr3 underlying297 rfl hsi0.out ?_)
    |fail)
   refine H3.o.1.mono ?_;rintro e w4 ⟨hr4,hb4⟩;obtain rfl:e=.returned (.tuple #[.agg (bkC y).toArray,.int .i64 0]):=by
    rcases hr4 with⟨-,h⟩|⟨h,-⟩
    .rw [h,HY.o.1]
    .rw [hmay.out]at h;cases h
   have hA:=zc w4 (.cells (bkC y).toArray 60) rfl;have rA:=zg hA;have hu4:Upd (fun _=>False) (wr.alloc (.cells PG.toArray 297)) w4:=uuo hb4;have hua:Upd (fun _=>False) w4 (w4.alloc (.cells (bkC y).toArray 60)):=(uur _ _).alloc _;have hsl5:=qqh ((H3.o.2.1.keep hu4 (fun _ _ h=>h)).keep hua (fun _ _ h=>h));have H4:=Y2 hu4 hua;clear hr4 hb4 hu4 hua hA hcp hr3;go_wp2_with (first
    |(refine zk rfl _ _ _ rfl _ _ _ rfl rfl (by rw[HY.o.2.1];rfl) hy64.out HY.o.2.2 ?_)
    |(refine qYy rfl _ _ rfl _ _ rfl _ _ rA underlying60 rfl hy64.out ?_)
    |(refine ym rfl 32 60 _ rfl 64 de underlying32 ⟨i0,z,HK.o.1,HK.o.2.1,HK.o.2.2.1,HK.o.2.2.2.1⟩ de (bkC y) rfl HY.o.2.1 ?_)
    |(at_builtin;refine zG rfl _ _ _ rfl i0 z 64 underlying32 HK.o.1 HK.o.2.1 HK.o.2.2.2.1 HK.o.2.2.2.2 HK.o.2.2.1 de rfl hsl5.out (bkC y) oy HY.o.2.1 HY.o.2.2 oj oM ?_;intro v' w11 hs11 hu11 hbf)
    |fail)
   replace hu11:Upd (ownS (.slice ao 0 cc)) (w4.alloc (.cells (bkC y).toArray 60)) w11:=hu11;replace hbf:blockFrom (w4.alloc (.cells (bkC y).toArray 60)) (.slice ao 0 cc) v':=hbf;have HZ:=Y3 hs11 hu11 hbf;clear hs11 hu11 hbf rA;go_roundw
   case rel=>
    obtain⟨hs11,hu11,hbf⟩:=HZ.o;have hB4:Below w.heap.size w (w4.alloc (.cells (bkC y).toArray 60)):=zj H3.o.2.2 (H4.o.1.trans H4.o.2) (qXo _) (fun _ h=>h.elim);refine⟨1,oM,by go_num,?_,hbf.ge hB4.size HS.o.2.1,zj hB4 hu11 (qXo _) HS.o.2.1.own⟩;rw[ur,xt];rw[HY.o.1]at hs11;exact hs11
   case measure=>simp[intOf]
  .obtain rfl:k=1:=oM;have HS:=Y3 hsl hf hb;obtain⟨ao,cc,rfl⟩:=hsl.rd.jU;clear hsl hf hb;go_wp2
   go_ret2
   exact⟨_,rfl,HS.o.1,HS.o.2.1,HS.o.2.2⟩
end Go.Proofs.YtpejdgiccaijfaaGreatDoor
namespace Go.Proofs.YtpejdgiccaijfaaGreatDoor
open Go Go.RowKit Go.Shelf Tryz
attribute [local go_sem] qYa
theorem Dv.exact{S:Nat->Prop}{w:World}{b:Nat}{F:List Bk}{O:List (Nat×Bk)}{P:List Int}(h:Dv S w b F O P):∃S0:Nat->Prop,Dv S0 w b F O P/\(∀j,S0 j->S j)/\∀j,S0 j->∃cs t z,w.heap[j]?=some (.cells cs t z):=by
 obtain⟨vf,vo,vp,h,hs⟩:=h;exact⟨dvS b vf vo vp,⟨vf,vo,vp,h,fun _ hj=>hj⟩,hs,fun j hj=>by obtain⟨cs,t,hc⟩:=h.cells j hj;exact⟨cs,t,_,hc⟩⟩
theorem QN(base i:Nat)(B:List Bk):ckO base (i+1) B=ckO base i B++[Yl base B i]:=by simp[ckO,List.range_succ]
theorem JI(base i:Nat)(B:List Bk):(ckO base i B).length=i:=by simp[ckO]
end Go.Proofs.YtpejdgiccaijfaaGreatDoor
namespace Go.Proofs.YtpejdgiccaijfaaGreatDoor
open Go Go.RowKit Tryz
def szS:List Nat:=[6,2,2,2,2,2,1]
def Ws(gs gt:Nat):Value:=.agg #[.int .i64 1,.slice (some ⟨gs,0,none⟩) 7 7,.func (.func 125) #[] #[],.func (.func 194) #[] #[.pointer (some ⟨gt,0,none⟩)],.func (.func 127) #[] #[]]
def QO(w:World)(gs gt:Nat):Prop:=w.rangeAt gs 0 (ints (natsI szS))/\Bnd w (.func (.func 194) #[] #[.pointer (some ⟨gt,0,none⟩)]) bndS
theorem JJ:(prog.info? 141).map (·.size)=some 5:=kR
theorem yp:(prog.info? 44).map (·.size)=some 7:=kR
theorem wo(w:World):Calls prog 77 #[] w fun e w'=>∃gs gt,e=.returned (Ws gs gt)/\QO w' gs gt/\Below w.heap.size w w':=by
 have hmf:=qqf;go_enter func77,ntmps77
 go_wp2_with fail
 refine(xo).mono ?_;rintro e w1 ⟨rfl,rfl⟩;go_wp2
 obtain⟨h1,h2,h3,h4,h5,h6⟩:=xw w (.cells #[.int .i64 1,.slice (some ⟨w.heap.size+1,0,none⟩) 7 7,.func (.func 125) #[] #[],.func (.func 194) #[] #[.pointer (some ⟨w.heap.size+1+1+1,0,none⟩)],.func (.func 127) #[] #[]] 141) (.cells (ints (natsI szS)).toArray 3)
  (.cells (bndC bndS).toArray 207) (.cells #[.slice (some ⟨w.heap.size+1+1,0,none⟩) 7 7] 294)
 refine qYp (zv rfl _ _ w.heap.size 0 [.int .i64 1,.slice (some ⟨w.heap.size+1,0,none⟩) 7 7,.func (.func 125) #[] #[],.func (.func 194) #[] #[.pointer (some ⟨w.heap.size+1+1+1,0,none⟩)],.func (.func 127) #[] #[]] _ rfl (zg h1) underlying141 rfl JJ) rfl
  ⟨w.heap.size+1,w.heap.size+1+1+1,rfl,⟨zg h2,w.heap.size+1+1+1,w.heap.size+1+1,7,rfl,za h4 0,zg h3⟩,Upd.below h6⟩
def sectS(xs:List Int):Bk:=sectB 1 (numL szS xs)
theorem uZ{xs:List Int}(h:xs.length=7):(sectS xs).length=64:=vn jA
def YX(w:World)(xs:List Int)(e:Ending)(w':World):Prop:=
 ((mayS xs=true/\e=.returned (.tuple #[.agg (bkC (sectS xs)).toArray,.int .i64 0]))\/(mayS xs=false/\e=.returned (.tuple #[.agg (bkC zB).toArray,.int .i64 10])))/\Below w.heap.size w w'
theorem YY{w:World}{gs gt:Nat}(hF:QO w gs gt)(hN:Nib w)(cs:List Value)(hcs:cs.length=7)(xs:List Int)(hxl:xs.length=7)
  (htell:∀W,Calls prog 125 #[.agg cs.toArray] W (zR W 7 xs)):
  Calls prog 76 #[Ws gs gt,.agg cs.toArray] w (YX w xs):=by
 obtain⟨hs,hB⟩:=hF;have hcz:(prog.info? 44).map (·.size)=some cs.length:=by rw[hcs];exact yp
 have htell':∀W,Below w.heap.size w W->Calls prog 125 (#[.agg cs.toArray]++ #[]) W (zR W 7 xs):=fun W _=>htell W;have hmay:∀W gl cc,7<=cc->cc<=maxLen->Below w.heap.size w W->W.rangeAt gl 0 (ints xs)->Calls prog 194 (#[.slice (some ⟨gl,0,none⟩) 7 cc]++ #[.pointer (some ⟨gt,0,none⟩)]) W fun e W'=>e=.returned (.bool (mayS xs))/\Below W.heap.size W W':=fun W gl cc hc hc2 hW hr=>
  YL xs hxl hc hc2 (hB.below hW) hr
 cases hm:mayS xs with
 |false=>
  rw[hm]at hmay;exact(Jp (w:=w) 1 xs 7 gs 7 125 194 #[] #[.pointer (some ⟨gt,0,none⟩)] (.func (.func 127) #[] #[]) rfl cs hcz (fun _ _=>rfl) (fun _ _=>rfl) htell' hmay).mono
   (fun e w' ⟨he,hb⟩=>⟨.inr ⟨hm,he⟩,hb⟩)
 |true=>
  rw[hm]at hmay;obtain⟨h0,hfit⟩:=sD hxl hm;have e:numsL (numL szS xs)=xs:=uT jF h0;rw[<-e]at htell' hmay;exact(Qq (w:=w) 1 de (numL szS xs) hfit 7 (by rw[qy jF];rfl) de gs 7 125 194 #[] #[.pointer (some ⟨gt,0,none⟩)] (.func (.func 127) #[] #[]) rfl cs hcz (by rw[YG jF];exact hs) hN (fun _ _=>rfl) (fun _ _=>rfl) htell' hmay).mono
   (fun e w' ⟨he,hb⟩=>⟨.inl ⟨hm,he⟩,hb⟩)
namespace fFormS2
abbrev n14f:Nat:=44
theorem JF:type_of% @yp:= @yp
abbrev d16f:= @mayS
theorem AS:type_of% @func45:= @func45
theorem AT:type_of% @ntmps45:= @ntmps45
theorem AU:type_of% @underlying44:= @underlying44
theorem AV:type_of% @wo:= @wo
theorem AW:type_of% @YY:= @YY
abbrev AX:= @sectS
theorem AY:type_of% @uZ:= @uZ
end fFormS2
open fFormS2 in
theorem QP{w:World}(hN:Nib w)(cs:List Value)(hcs:cs.length=7)(xs:List Int)(hxl:xs.length=7)
  (htell:∀W,Calls prog 125 #[.agg cs.toArray] W (zR W 7 xs)):
  Calls prog 45 #[.agg cs.toArray] w (YX w xs):=wm
def dsR(xs:List Int):List Value:=[.int .i64 (xs.getD 0 0),.int .i64 (xs.getD 1 0),.int .i64 (xs.getD 2 0),.int .i64 (xs.getD 3 0),.int .i64 (xs.getD 4 0),.bool (xs.getD 5 0==1),.int .i64 (xs.getD 6 0)]
theorem tW(xs:List Int):(dsR xs).length=7:=rfl
theorem wu(xs:List Int):∀v∈dsR xs,v.oneCell'=true:=by
 intro v hv;simp only[dsR,qzm,qzy,qYt]at hv;rcases hv with rfl|rfl|rfl|rfl|rfl|rfl|rfl<;>rfl
theorem zab{w:World}{gl ol cl:Nat}(xs:List Int)(hxl:xs.length=7)(hx:w.rangeAt gl ol (ints xs)):
  Calls prog 351 #[.slice (some ⟨gl,ol,none⟩) 7 cl] w fun e w'=>e=.returned (.agg (dsR xs).toArray)/\Below w.heap.size w w':=by
 have x0:=yt hx 0 oM;have x1:=yt hx 1 oM;have x2:=yt hx 2 oM;have x3:=yt hx 3 oM;have x4:=yt hx 4 oM;have x5:=yt hx 5 oM;have x6:=yt hx 6 oM;rw[qXm]at x0;have hlt:gl<w.heap.size:=qYg w _ x0;have hds:Hid (dsR xs=[.int .i64 (xs.getD 0 0),.int .i64 (xs.getD 1 0),.int .i64 (xs.getD 2 0),.int .i64 (xs.getD 3 0),.int .i64 (xs.getD 4 0),.bool (xs.getD 5 0==1),.int .i64 (xs.getD 6 0)]):=rfl;generalize xs.getD 0 0=y0 at*;generalize xs.getD 1 0=y1 at*;generalize xs.getD 2 0=y2 at*;generalize xs.getD 3 0=y3 at*;generalize xs.getD 4 0=y4 at*;generalize xs.getD 5 0=y5 at*;generalize xs.getD 6 0=y6 at*;clear hx hxl;go_enter func351,ntmps351
 go_wp2
 go_region
 go_wp2
 exact qYp (zv rfl _ _ w.heap.size 0 [.int .i64 y0,.int .i64 y1,.int .i64 y2,.int .i64 y3,.int .i64 y4,.bool (y5==1),.int .i64 y6] _ rfl ((qYj ..).2 (zg (zc w _ rfl))) underlying307 rfl infoThR) rfl
  ⟨by rw[hds.out],zQ ((qxl _ w).alloc (qXo _) _) 1⟩
end Go.Proofs.YtpejdgiccaijfaaGreatDoor
