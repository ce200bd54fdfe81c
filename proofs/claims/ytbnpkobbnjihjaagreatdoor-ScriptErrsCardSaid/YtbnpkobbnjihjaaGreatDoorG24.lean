/- What a sector -/
import Derived.Test.YtbnpkobbnjihjaaGreatDoorG21
import Derived.Test.YtbnpkobbnjihjaaGreatDoorG22
set_option maxRecDepth 100000
set_option maxHeartbeats 4000000
namespace Go.Proofs.YtbnpkobbnjihjaaGreatDoor
open Go Go.RowKit Tryz
variable{w:World}{k:Nat}{b:Bk}{l:List Bk}{L:List (List Nat)}
theorem wR{P:Prop}(h:P:=by
 have HN:=qqh hN;have Hb:=qqh hb;clear hN hb;go_enter q1b,q2b
 go_wp2_with fail
 change Code.wp _ _ _ _ ((w.alloc (.cells (bkC b).toArray 54)).alloc (.cells d3b.toArray n4b))
 have hr:((w.alloc (.cells (bkC b).toArray 54)).alloc (.cells d3b.toArray n4b)).rangeAt w.heap.size 0 (bkC b):=qYj (zf (zc w _ rfl)) _;have hg:((w.alloc (.cells (bkC b).toArray 54)).alloc (.cells d3b.toArray n4b)).heap[w.heap.size+1]?=some (.cells d3b.toArray n4b):=zc _ _ oe;have hu:Upd (fun _=>False) w ((w.alloc (.cells (bkC b).toArray 54)).alloc (.cells d3b.toArray n4b)):=((uur _ w).alloc _).alloc _;generalize (w.alloc (.cells (bkC b).toArray 54)).alloc (.cells d3b.toArray n4b)=w2 at*;have hb2:Below w.heap.size w w2:=Upd.below hu;refine qZd (S:=fun W=>W.rangeAt w.heap.size 0 (bkC b)) kR oG (fun hHeld=>?_);refine Wl.l 1 (fun w h=>h) underlying54 (zv _ Hb.out) hHeld ?_;refine Wl.r 0 (fun K hK=>?_);go_simp
 refine(q5b _).mono ?_;rintro e w3 ⟨gs,gt,rfl,hF,hb3⟩;have hb3':Below w2.heap.size w2 w3:=yj hb3;refine hK.o _ _ (Below.range hb3 hHeld) (fun hHeld2=>?_);clear hK K;refine Wl.r 2 (fun K hK=>?_);go_simp
 refine(q6b hF ((HN.o.keep hu id).below hb3') b Hb.out).mono ?_;rintro e w4 ⟨⟨rs,hr1,hr2,rfl⟩,hb4⟩;have hb4':Below w2.heap.size w2 w4:=hb3'.trans (hb4.mono hb3'.size);have hg4:=(hb4'.block _ (zd hg)).trans hg;have hth:w4.there (w.heap.size+1) 0 n7b:=fun j hj=>by
  rw[za hg4,zg hg4];exact⟨by rw[qXy,qxe (by rw[qXh];exact hj)];rfl,rfl⟩
 have hrl:rs.length=n7b/\∀v∈rs,v.oneCell'=true:=by
  cases hk:d8b b with
  |true=>rw[hr1 hk];exact⟨q9b _,zdC _⟩
  |false=>rw[hr2 hk];exact⟨rfl,qxu.1 (by simpa using q11b:d3b.all (·.oneCell')=true)⟩
 have hst:w4.there (w.heap.size+1) 0 rs.toArray.size:=by rw[show rs.toArray.size=n7b by simpa using hrl.1];exact hth
 have hst2:w4.there (w.heap.size+1) 0 rs.length:=by rw[hrl.1];exact hth
 have hsz2:(prog.info? n4b).map (·.size)=some rs.toArray.size:=by rw[show rs.toArray.size=n7b by simpa using hrl.1];exact zba
 have hsz3:(prog.info? n4b).map (·.size)=some rs.length:=by rw[hrl.1];exact zba
 have hU5:Below w.heap.size w (w4.setCells (w.heap.size+1) 0 rs):=zj (hb2.trans (hb4'.mono hu.size)) (zo w4 (w.heap.size+1) 0 _) (qXp _) (fun k e=>oM);refine hK.o _ _ (Below.range hb4 hHeld2) (fun hHeld3=>?_);clear hK K;refine Wl.i [3,4] ?_;iterate 2 refine Wl.t hHeld3 ?_
 refine Wl.o ?_;refine Wl.r 5 (fun K hK=>?_);rw[if_pos oA];refine qZe _ _ _ rfl _ _ (List.toArray _) rfl rfl (hst) (hsz2) (qYo hrl.2) ?_;simp only[Act.put,qXd];refine hK.o _ _ ((zo w4 (w.heap.size+1) 0 rs).range hHeld3 oM) (fun hHeld4=>?_);clear hK K;refine Wl.r 6 (fun K hK=>?_);go_simp
 refine hK.o _ _ (hHeld4) (fun _=>?_);clear hK K;refine Wl.d ?_;have HE:=Y5 hU5 hst2 hsz3 hr1 hr2;clear hst hst2 hsz2 hsz3 hU5 hth hg4 hb4 hb4' hb3 hb3' hHeld hHeld2 hHeld3 hHeld4 hF hr hg hu hb2 hr1 hr2 hrl;go_wp2
 exact qYq (zp rfl _ _ (w.heap.size+1) 0 rs _ rfl (qYl _ _ _ _ HE.o.2.1) zdD rfl HE.o.2.2.1) rfl ⟨⟨rs,HE.o.2.2.2.1,HE.o.2.2.2.2,rfl⟩,HE.o.1⟩):P:=h
def numsR(b:Bk):List Nat:=numsAt b 1 ST
def okR(b:Bk):Bool:=okGet b 2 ST (mayR (natsI (numsR b)))
def cdR(b:Bk):Int:=xp b 2 ST (mayR (natsI (numsR b)))
def Wh(w:World)(b:Bk):Ending->World->Prop:=vH w (okR b) (dsR (natsI (numsR b))) qd (cdR b)
theorem Zo{w:World}{gs j:Nat}(s:SU w gs j)(v:Nib w)(b:Bk)(A:b.length=64):
  Calls prog 238 #[Vu gs j,.agg (bkC b).toArray] w (Wh w b):=by
 obtain⟨D,H,E,F⟩:=s;refine JQ (w:=w) b A 2 ST ⟨by simp[ST],de⟩ 7 rfl de gs 7 306 307 #[.pointer (some ⟨j,0,none⟩)] #[] (.func (.func 305) #[] #[]) (mayR (natsI (numsR b))) (dsR (natsI (numsR b)))
  (by rw[qD];exact infoThR) (wN _) D v (fun _ _=>rfl) (fun _ _=>rfl) ?_ ?_
 .intro G gl c n p q;subst n;exact rD _ jh (qXp _) de ((uuo (S:=fun _=>False) p).jU E id) (F.below p) q
 .intro _ G gl c n p q;subst n;exact zdr _ jh q
namespace fGetR2
theorem q1b:type_of% @func177:= @func177
theorem q2b:type_of% @ntmps177:= @ntmps177
abbrev d3b:= @qd
abbrev n4b:Nat:=273
theorem q5b:type_of% @xL:= @xL
theorem q6b:type_of% @Zo:= @Zo
abbrev n7b:Nat:=7
abbrev d8b:= @okR
theorem q9b:type_of% @qD:= @qD
theorem zdC:type_of% @wN:= @wN
theorem q11b:type_of% @Ym:= @Ym
theorem zba:type_of% @infoThR:= @infoThR
theorem zdD:type_of% @underlying273:= @underlying273
end fGetR2
open fGetR2 in
theorem Ea(hN:Nib w)(b:Bk)(hb:b.length=64):
  Calls prog 177 #[.agg (bkC b).toArray] w (Wh w b):=wR
def numsS(b:Bk):List Nat:=numsAt b 1 szS
def okS(b:Bk):Bool:=okGet b 1 szS (mayS (natsI (numsS b)))
def cdS(b:Bk):Int:=xp b 1 szS (mayS (natsI (numsS b)))
def Wi(w:World)(b:Bk):Ending->World->Prop:=vH w (okS b) (dsS (natsI (numsS b))) zeroS (cdS b)
theorem Zp{w:World}{gs j:Nat}(s:Jo w gs j)(v:Nib w)(b:Bk)(A:b.length=64):
  Calls prog 171 #[VG gs j,.agg (bkC b).toArray] w (Wi w b):=by
 obtain⟨D,E⟩:=s;refine JR (w:=w) b A 1 szS ⟨by simp[szS],de⟩ 7 rfl de gs 7 167 95 #[.pointer (some ⟨j,0,none⟩)] #[] (.func (.func 93) #[] #[]) (mayS (natsI (numsS b))) (dsS (natsI (numsS b)))
  (by rw[qE];exact yw) (qF _) D v (fun _ _=>rfl) (fun _ _=>rfl) ?_ ?_
 .intro F gl c n q p;subst n;exact Xx _ jc (qXp _) de (E.below q) p
 .intro _ F gl c n q p;subst n;exact zdt _ jc p
namespace fGetS2
theorem q1b:type_of% @func101:= @func101
theorem q2b:type_of% @ntmps101:= @ntmps101
abbrev d3b:= @zeroS
abbrev n4b:Nat:=38
theorem q5b:type_of% @wO:= @wO
theorem q6b:type_of% @Zp:= @Zp
abbrev n7b:Nat:=7
abbrev d8b:= @okS
theorem q9b:type_of% @qE:= @qE
theorem zdC:type_of% @qF:= @qF
theorem q11b:type_of% @rT:= @rT
theorem zba:type_of% @yw:= @yw
theorem zdD:type_of% @underlying38:= @underlying38
end fGetS2
open fGetS2 in
theorem Eb(hN:Nib w)(b:Bk)(hb:b.length=64):
  Calls prog 101 #[.agg (bkC b).toArray] w (Wi w b):=wR
def Wj(w:World)(b:Bk):Ending->World->Prop:=vH w (okP b) (dsP (natsI (numsP b))) vZ (cdP b)
theorem Zq{w:World}{gs j:Nat}(s:SW w gs j)(v:Nib w)(b:Bk)(A:b.length=64):
  Calls prog 375 #[Vv gs j,.agg (bkC b).toArray] w (Wj w b):=by
 obtain⟨D,H,E,F⟩:=s;refine JS (w:=w) b A 3 UV ⟨by simp[UV],de⟩ 20 rfl de gs 20 300 302 #[.pointer (some ⟨j,0,none⟩)] #[] (.func (.func 298) #[] #[]) (mayP (natsI (numsP b))) (dsP (natsI (numsP b)))
  (by rw[vL];exact wK) (vM _) D v (fun _ _=>rfl) (fun _ _=>rfl) ?_ ?_
 .intro G gl c n p q;subst n;exact rm _ jd (qXp _) de ((uuo (S:=fun _=>False) p).jU E id) (F.below p) q
 .intro _ G gl c n p q;subst n;exact zdu _ jd q (qXp _) de
namespace fGetP2
theorem q1b:type_of% @func304:= @func304
theorem q2b:type_of% @ntmps304:= @ntmps304
abbrev d3b:= @vZ
abbrev n4b:Nat:=263
theorem q5b:type_of% @vK:= @vK
theorem q6b:type_of% @Zq:= @Zq
abbrev n7b:Nat:=20
abbrev d8b:= @okP
theorem q9b:type_of% @vL:= @vL
theorem zdC:type_of% @vM:= @vM
theorem q11b:type_of% @Yn:= @Yn
theorem zba:type_of% @wK:= @wK
theorem zdD:type_of% @underlying263:= @underlying263
end fGetP2
open fGetP2 in
theorem Wk(hN:Nib w)(b:Bk)(hb:b.length=64):
  Calls prog 304 #[.agg (bkC b).toArray] w (Wj w b):=wR
theorem Wm:∃i z,prog.info? 132=some i/\i.zero=some z/\z.cells.size=4/\i.size=4/\i.bytes=32:=by
 have h:(prog.info? 132).map (fun i=>(i.zero.map (·.cells.size),i.size,i.bytes))=some (some 4,4,32):=kR;obtain⟨i,n,j⟩:=qYc.1 h;simp only[qYe]at j;obtain⟨z,p,q⟩:=qYc.1 j.1;exact⟨i,z,n,p,q,j.2.1,j.2.2⟩
theorem qg{g o:Nat}(s:∀h u,(rowC l)[h]?=some u->w.cell? ⟨g,o+h,none⟩=some u)(p:All64 l)(j:k<l.length):w.rangeAt g (o+k*64) (bkC (l.getD k zB)):=by
 intro h v n;have e:l.getD k zB=l[k]:=by rw[qyf,qyj j];rfl
 rw[e]at n;have q:=(qyl.1 n).1;rw[zn,p _ (qyu j)]at q;rw[qXl];exact s _ v ((vA p j q).trans n)
def EntsOut(w:World)(l:List Bk)(e:Ending)(w':World):Prop:=
 ∃v,e=.returned (.tuple #[.int .i64 ((if readOk l then readSeq l else 0:Nat):Int),v,.bool (readOk l)])/\Sl w' 132 4 v (if readOk l then readEs l else[]).length ((if readOk l then readEs l else[]).flatMap entC)/\From w.heap.size v/\Below w.heap.size w w'
theorem EntsOut.no{w':World}(h:readOk l=false)(j:Below w.heap.size w w'):EntsOut w l (.returned (.tuple #[.int .i64 0,.slice none 0 0,.bool false])) w':=
 ⟨.slice none 0 0,by rw[h];rfl,by rw[h];exact Sl.nil _ _ _,From.nil _ _ _,j⟩
theorem Ec(h:okP b=false):(cdP b==0)=false:=by
 unfold okP at h;unfold cdP xp;rw[h];split
 .next h=>cases h
 .split<;>decide
theorem Ed(h:okP b=true):cdP b=0:=by
 unfold okP at h;unfold cdP xp;rw[h];rfl
theorem qh(l:List Bk)(k:Nat):entsTo l (k+1)=entsTo l k++pgEnts (l.getD k zB):=by simp[entsTo,List.range_succ]
theorem tc(h:k<l.length)(j:goesP (readSeq l) (readOf l) k (l.getD k zB)=false):readOk l=false:=by
 rw[<-Bool.not_eq_true];intro e;unfold readOk at e;rw[qxo,qxo,qxu]at e;have:=e.2.2 k (qzs.2 h);rw[j]at this;cases this
theorem Zr{l:List Bk}{of:Nat}(h:∀i,i<of->okP (l.getD i zB)=true):∀k,k<=of->(entsTo l k).length<=4*k
 |0,_=>qXp _
 |k+1,j=>by
  rw[qh,qyy];have h1:=Zr h k oM;have h2:=(yF (h k oM)).2.2.2.2;have:(pgEnts (l.getD k zB)).length=pgMany (l.getD k zB):=by simp[pgEnts]
  omega
theorem Zcg24{P:Prop}(h:P:=by
  replace j:gb=true:=j;have aE:=qqh (E.o.1 j);have HS:=Y4 E.o.2.1 E.o.2.2.1 E.o.2.2.2.1 E.o.2.2.2.2;clear j;go_wp2_with (first
   |(at_builtin;refine zF rfl _ _ 123 rfl bb bc 32 underlying123 bd be bg bh bf de rfl HS.o.1 _ _ (ap.flatMap entC) rfl HS.o.2.1 HS.o.2.2.1 oW jI ?_)
   |fail)
  intro K M O Q R;have A:=qqh (aE.o K M O Q R);clear O Q R;go_wp2_with fail
  go_roundg (gk-1)
  case measure=>have:=D.o.2.2.2.2.2.2.2.2.2.1;omega
  case rel=>exact⟨a1+1,by have:=D.o.2.2.2.2.2.2.2.2.2.1;omega,by go_num,rfl,A.o.1,A.o.2.1,A.o.2.2.1,A.o.2.2.2⟩):P:=h
theorem Ee{v:Value}(bn:Rd w 64 v l.length (rowC l))(H:All64 l)(bo:0<l.length)(cf:l.length<=4096)(T:Nib w):Calls prog 237 #[v] w (EntsOut w l):=by
 obtain⟨g,o,ch,rfl,bp,ad⟩:=bn.at bo;have aG:=qg ad H bo;rw[qYa,qXm]at aG;have ae:∀k,(l.getD k zB).length=64:=fun k=>by
  rw[qyf];cases h:l[k]? with
  |none=>rfl
  |some x=>exact H x (List.mem_of_getElem? h)
 obtain⟨a6,U⟩:=qqe (l.getD 0 zB);have bq:a6.length=64:=by rw[U];exact ae 0
 rw[<-U]at aG;have bQ:=qqh (Wk T a6 bq);have ci:(0:Int)<(l.length:Int):=oM;have bR:=zv a6 bq;obtain⟨bS,aX⟩:=qqe (dsPk [] 0);have aH:=Tj;simp only[<-aX]at aH;have ar:bS.toArray.size=20:=by rw[aX,qXh,wg]
 have ak:=Y7 ad H ae T U aH ar;clear ad H ae T U bn aX ar;go_enter func237,ntmps237
 go_wp2
 go_step3
 go_wp2_with (first
  |(refine qZa rfl _ _ rfl _ _ rfl _ _ aG underlying54 rfl bR ?_)
  |fail)
 refine bQ.o.mono ?_;rintro e w1 ⟨⟨aI,F,af,rfl⟩,aY⟩;have bT:aI.length=20/\∀v∈aI,v.oneCell'=true:=by
  cases V:okP a6 with
  |true=>rw[F V];exact⟨vL _,vM _⟩
  |false=>rw[af V];exact⟨rfl,qxu.1 (by simp[vZ,Value.oneCell']:vZ.all (·.oneCell')=true)⟩
 obtain⟨aJ,au⟩:=qqe (w1.alloc (.cells aI.toArray 263));have a7:Upd (fun _=>False) w aJ:=by rw[au];exact(uuo aY).alloc _
 have N:=qqg au;have ag:aJ.heap.size=w1.heap.size+1:=by rw[au];simp
 have hge:=aY.size;have aK:=Y2 au bT;have av:=Y4 a7 N ag hge;clear a7 N ag hge au aY aG;obtain⟨P,aL⟩:=qqe (w1.heap.size);rw[<-aL]at av;go_upto_region 2 with(first
  |(refine zT rfl _ rfl _ aH ?_)
  |(refine zk rfl _ _ _ rfl _ _ aI rfl rfl (by rw[aK.o.2.1];exact ak.o.2.2.2.2.2.2) (by rw[aK.o.2.1];exact wZ) aK.o.2.2 ?_)
  |fail)
 rw[<-aK.o.1,<-aL];have cj:=qqh aL;clear aL;cases p:okP a6 with
 |false=>
  have q1:=Ec p;have aw:readOk l=false:=by unfold readOk;rw[<-ak.o.2.2.2.2.1,p];rfl
  generalize cdP a6=aZ at*;have q:=qqh aw;have q2:¬aZ=0:=by simpa using q1
  clear p aw F af;go_wp2_with fail
  rw[qxq];exact qYq (v:=.tuple #[.int .i64 0,.slice none 0 0,.bool false]) oo rfl (EntsOut.no q.o (Upd.below av.o.1))
 |true=>
  have br:=Ed p;rw[br];obtain⟨a7,N,ag,hge⟩:=av.o;rw[F p]at N;obtain⟨am,c1,c2,bU,bV⟩:=XV N p;obtain⟨-,-,W,X,-⟩:=yF p;have an:readOf l=pgOf a6:=by unfold readOf;rw[ak.o.2.2.2.2.1]
  have bs:readSeq l=pgSeq a6:=by unfold readSeq;rw[ak.o.2.2.2.2.1]
  rw[<-an]at c2 W X;rw[<-bs]at am;have b0:=Y5 N am W X p;clear N am c1 bU bV an bs br F af p a7 ag hge W X;by_cases aM:readOf l<=l.length
  .have q2:¬((l.length:Int)<(readOf l:Int)):=oM;go_wp2_with fail
   go_step3
   go_wp2_with fail
   go_loopg[7,8,32] l.length (fun gk bt bW bX wr=>∃k:Nat,k+gk=l.length/\bX=.int .i64 (k:Int)/\bW=.bool true/\Sl wr 132 4 bt (entsTo l (min k (readOf l))).length ((entsTo l (min k (readOf l))).flatMap entC)/\From (P+1) bt/\Upd (fun s=>P+1<=s) aJ wr/\∀i<k,goesP (readSeq l) (readOf l) i (l.getD i zB)=true)
   case atStart=>exact⟨0,oM,rfl,rfl,by rw[Nat.zero_min];exact Sl.nil _ _ _,From.nil _ _ _,uur _ _,fun i h=>oM⟩
   case round=>
    obtain⟨k,V,rfl,rfl,hsl,Y,G,a8⟩:=hrel;obtain⟨ad,H,ae,T,U,bu,ar⟩:=ak.o;obtain⟨a7,N,ag,hge⟩:=av.o;obtain⟨bv,am,W,X,p⟩:=b0.o;have bx:∀s,s<=P->¬(P+1<=s):=fun s aN=>oM;have bz:=G.jU am (bx _ (qXp _));have bA:=G.jU c2 (bx _ (qXp _));have Z:Upd (fun s=>w.heap.size<=s) w wr:=(a7.mono fE).trans (G.mono (fun s _ (h:P+1<=s)=>oM));by_cases hlt:k<l.length
    .have bY:(k:Int)<(l.length:Int):=oM;have cl:(0:Int)<=(k:Int):=oM;obtain⟨n,aO⟩:=qqe (l.getD k zB);have ax:n.length=64:=by rw[aO];exact ae k
     have F:=qg ad H hlt;rw[<-aO]at F;have bZ:wr.rangeAt g (o+k*64) (bkC n):=Z.range F oM;have ay:=zv n ax;obtain⟨bB,aP⟩:=qqe (wr.alloc (.cells (bkC n).toArray 54));have J:=qqu aP;have bC:=qqg aP;have az:=zf bC;have bD:=J.jU bz id;have bE:=J.jU bA id;have c0:=zu n;have c3:=qqh aP;have aQ:P+1<=wr.heap.size:=by have:=G.size;omega
     have D:=Y11 J hsl Y G a8 Z T W X V aQ;obtain⟨co,b1⟩:=qqe (wr.heap.size);have c4:=qqh b1;have ao:=Y2 aO U;have cp:(bkC n).toArray.size=64:=zm _ ax;rw[<-b1]at az;have bF:Below w.heap.size w bB:=(zj (qxl _ w) Z (qXp _) (fun _ h=>h)).trans ((Upd.below J).mono Z.size);have b2:=qqh bF;clear aP J bC a7 N ag hge bv am W X p bz bA F hsl Y G a8 Z T bu ad H ae ar aQ b1 bF aO U;go_upto_region 9 with(first
      |(refine qZa rfl _ _ rfl _ _ rfl _ _ bZ underlying54 rfl ay ?_)
      |(refine zk rfl _ _ _ rfl _ _ (bkC n) rfl rfl (by rw[zn,ax];rfl) ay c0 ?_)
      |fail)
     rw[<-c3.o,<-c4.o];by_cases an:readOf l<=k
     .have j:goesP (readSeq l) (readOf l) k n=(n==zB):=by unfold goesP;rw[if_pos an]
      have c5:((readOf l:Nat):Int)<=(k:Int):=oM;have b3:=fun c6=>WT n zB ax zG c6;obtain⟨aR,aS⟩:=qqe (zB);have bG:=xF aR aS;rw[<-aS]at b3 j;have cq:=qqh aS;clear aS;by_cases ah:n=aR
      .have b4:(n==aR)=true:=by simp[ah]
       rw[b4]at b3 j;have c7:=qqh j;clear j ah;go_wp2_with (first
        |(refine qZa rfl _ _ rfl _ _ rfl _ _ az underlying54 rfl ay ?_)
        |(refine zX rfl rfl bG ?_)
        |fail)
       go_roundg (gk-1)
       case measure=>omega
       case rel=>
        obtain⟨J,hsl,Y,G,a8,Z,T,W,X,V,aQ⟩:=D.o;refine⟨k+1,oM,by go_num,rfl,?_,Y,G.trans (J.mono fE),fun i ai=>?_⟩
        .rw [Nat.min_eq_right an]at hsl;rw[Nat.min_eq_right oM];exact hsl.keep J (fun _ _ h=>h)
        .rcases Nat.lt_succ_iff_lt_or_eq.1 ai with h|rfl
         .exact a8 i h
         .rw [<-ao.o.1];exact c7.o
      .have b4:(n==aR)=false:=by simpa using ah
       rw[b4]at b3 j;have q:=qqh (tc hlt (ao.o.1▸j));clear j ah;go_wp2_with (first
        |(refine qZa rfl _ _ rfl _ _ rfl _ _ az underlying54 rfl ay ?_)
        |(refine zX rfl rfl bG ?_)
        |fail)
       rw[qxq];exact qYq (v:=.tuple #[.int .i64 0,.slice none 0 0,.bool false]) oo rfl (EntsOut.no q.o b2.o)
     .have c5:¬(((readOf l:Nat):Int)<=(k:Int)):=oM;have j:goesP (readSeq l) (readOf l) k n=(okP n&&(pgSeq n==readSeq l&&(pgNo n==k&&(pgOf n==readOf l&&(if k+1=readOf l then !(pgMany n==0&&decide (0<k))else pgMany n==4))))):=by unfold goesP;rw[if_neg an]
      have c8:=qqh (Wk (D.o.2.2.2.2.2.2.1.keep (S:=fun s=>w.heap.size<=s) (D.o.2.2.2.2.2.1.trans (D.o.1.mono fE)) (fun h=>by have:=D.o.2.2.2.2.2.2.1.lt;omega)) n ax);go_wp2_with (first
       |(refine qZa rfl _ _ rfl _ _ rfl _ _ az underlying54 rfl ay ?_)
       |fail)
      refine c8.out.mono ?_;rintro e b5 ⟨⟨aT,F,af,rfl⟩,b6⟩;have bH:aT.length=20/\∀v∈aT,v.oneCell'=true:=by
       cases V:okP n with
       |true=>rw[F V];exact⟨vL _,vM _⟩
       |false=>rw[af V];exact⟨rfl,qxu.1 (by simp[vZ,Value.oneCell']:vZ.all (·.oneCell')=true)⟩
      obtain⟨aj,aA⟩:=qqe (b5.alloc (.cells aT.toArray 263));have aa:Upd (fun _=>False) bB aj:=by rw[aA];exact(uuo b6).alloc _
      have aU:=qqg aA;have b7:aj.heap.size=b5.heap.size+1:=by rw[aA];simp
      have cr:=aa.jU bD id;have ct:=aa.jU bE id;have aV:=Y2 aA bH;obtain⟨bI,aB⟩:=qqe (b5.heap.size);rw[<-aB]at aU;have b8:Below w.heap.size w aj:=b2.o.trans ((Upd.below aa).mono b2.o.size);have ab:=Y5 b8 aa b7 aB b6.size;have c9:=qqh aB;clear aA bH b6 aa b7 b8 bD bE aB az;go_upto_region 13 with(first
       |(refine zT rfl _ rfl _ aH ?_)
       |(refine zk rfl _ _ _ rfl _ _ aT rfl rfl (by rw[aV.o.2.1];exact ak.o.2.2.2.2.2.2) (by rw[aV.o.2.1];exact wZ) aV.o.2.2 ?_)
       |fail)
      rw[<-aV.o.1,<-c9.o];cases p:okP n with
      |false=>
       have cb:=Ec p;rw[p]at j;have q:=qqh (tc hlt (ao.o.1▸j));generalize cdP n=aZ at*;have cc:¬aZ=0:=by simpa using cb
       clear p j F af;go_wp2_with fail
       rw[qxq];exact qYq (v:=.tuple #[.int .i64 0,.slice none 0 0,.bool false]) oo rfl (EntsOut.no q.o ab.o.1)
      |true=>
       rw[Ed p];rw[F p]at aU;obtain⟨cu,cv,cx,cy,b9⟩:=XV aU p;rw[p,qxp]at j;have cz:=(yF p).2.2.2.2;have aW:(pgEnts n).length=pgMany n:=by simp[pgEnts]
       obtain⟨ap,ba⟩:=qqe (pgEnts n);rw[<-ba]at b9 aW;have cd:=qqh ba;generalize pgSeq n=a0 at*;generalize pgNo n=a1 at*;generalize pgOf n=a2 at*;generalize pgMany n=a3 at*;clear F af p aU ba;have bJ:goesP (readSeq l) (readOf l) k n=false->readOk l=false:=fun h=>tc hlt (ao.o.1▸h);have bK:goesP (readSeq l) (readOf l) k n=true->∀K M,Sl M 132 4 K ((entsTo l k).length+a3) ((entsTo l k).flatMap entC++ap.flatMap entC)->Upd (ownS u7) aj M->blockFrom aj u7 K->
         Sl M 132 4 K (entsTo l (min (k+1) (readOf l))).length ((entsTo l (min (k+1) (readOf l))).flatMap entC)/\From (P+1) K/\Upd (fun s=>P+1<=s) aJ M/\∀i<k+1,goesP (readSeq l) (readOf l) i (l.getD i zB)=true:=by
        intro bp K M O Q R;obtain⟨J,hsl,Y,G,a8,Z,T,W,X,V,aQ⟩:=D.o;obtain⟨b8,aa,b7,aB,cA⟩:=ab.o;refine⟨?_,R.ge (by have:=J.size;have:=aa.size;omega) Y,(G.trans (((J.trans aa).mono fE))).trans (Q.mono (fun s _ aN=>Y s aN)),fun i ai=>?_⟩
        .rw [Nat.min_eq_left oM,qh,qyy,qyd,<-ao.o.1,<-cd.o,aW];exact O
        .rcases Nat.lt_succ_iff_lt_or_eq.1 ai with h|rfl
         .exact a8 i h
         .rw [<-ao.o.1];exact bp
       have bL:Sl aj 132 4 u7 (entsTo l k).length ((entsTo l k).flatMap entC):=by
        have:=D.o.2.1;rw[Nat.min_eq_left oM]at this;exact this.keep (D.o.1.trans ab.o.2.1) (fun _ _ h=>h)
       have bM:(entsTo l k).length<=4*k:=by
        refine Zr (of:=k) (fun i ai=>?_) k (qXp _);have:=D.o.2.2.2.2.1 i ai;unfold goesP at this;rw[if_neg oM]at this;exact(qxo _ _▸this).1
       have bN:Rd aj 4 (.slice (some ⟨bI,4,none⟩) a3 a3) a3 (ap.flatMap entC):=by
        refine⟨by rw[xU,aW],by unfold maxLen;omega,some ⟨bI,4,none⟩,a3,rfl,(fun h=>by cases h),(fun b ce=>?_)⟩;cases ce;intro s u aN;rw[qxa];exact b9 s u aN
       have bO:∀u∈ap.flatMap entC,u.oneCell'=true:=fun u G=>by
        obtain⟨x,-,hx⟩:=qzp.1 G;exact Xm x u hx
       have cB:1<=readOf l/\readOf l<=256:=⟨b0.o.2.2.1,b0.o.2.2.2.1⟩
       obtain⟨bb,bc,bd,be,bf,bg,bh⟩:=Wm;have E:=Y5 bK bL bN bO bM;have aC:=qqh bJ;clear bJ bK bL bN bO bM b9 aW;generalize goesP (readSeq l) (readOf l) k n=gb at*;generalize readSeq l=bi at*;generalize readOf l=bj at*;by_cases bk:a0=bi
       .subst bk;by_cases h1:a1=k
        .subst h1;by_cases h2:a2=bj
         .subst h2;simp only[beq_self_eq_true,qxp]at j;by_cases H:a1+1=a2
          .subst H;rw[if_pos rfl]at j;by_cases aD:a3=0
           .subst aD;by_cases bP:0<a1
            .have aq:((0:Nat):Int)<(a1:Int):=oM;have q:=qqh (aC.o (by rw[j,qYs bP];rfl));clear j;go_wp2_with fail
             rw[qxq];exact qYq (v:=.tuple #[.int .i64 0,.slice none 0 0,.bool false]) oo rfl (EntsOut.no q.o ab.o.1)
            .have aq:¬((0:Nat):Int)<(a1:Int):=oM;rw[decide_eq_false bP]at j;replace j:gb=true:=j;have aE:=qqh (E.o.1 j);have HS:=Y4 E.o.2.1 E.o.2.2.1 E.o.2.2.2.1 E.o.2.2.2.2;clear j;go_wp2_with (first
              |(at_builtin;refine zF rfl _ _ 123 rfl bb bc 32 underlying123 bd be bg bh bf de rfl HS.o.1 _ _ (ap.flatMap entC) rfl HS.o.2.1 HS.o.2.2.1 oW jI ?_)
              |fail)
             intro K M O Q R;have A:=qqh (aE.o K M O Q R);clear O Q R;go_wp2_with fail
             go_roundg (gk-1)
             case measure=>have:=D.o.2.2.2.2.2.2.2.2.2.1;omega
             case rel=>exact⟨a1+1,by have:=D.o.2.2.2.2.2.2.2.2.2.1;omega,by go_num,rfl,A.o.1,A.o.2.1,A.o.2.2.1,A.o.2.2.2⟩
           .have aq:¬((a3:Nat):Int)=0:=oM;have cC:(0:Int)<=(a3:Int):=oM;have cD:(a3:Int)<=4:=oM;rw[show(a3==0)=false by simpa using aD]at j;exact Zcg24
          .rw [if_neg H]at j;have cc:¬((a1:Nat):Int)=(a2:Int)-1:=oM;by_cases aD:a3=4
           .subst aD;exact Zcg24
           .have aq:¬((a3:Nat):Int)=4:=oM;have q:=qqh (aC.o (by rw[j];simpa using aD));clear j;go_wp2_with fail
            rw[qxq];exact qYq (v:=.tuple #[.int .i64 0,.slice none 0 0,.bool false]) oo rfl (EntsOut.no q.o ab.o.1)
         .have aq:¬((a2:Nat):Int)=(bj:Int):=oM;have aF:(a2==bj)=false:=by simpa using h2
          simp only[beq_self_eq_true,qxp]at j;rw[aF]at j;have q:=qqh (aC.o j);clear j;go_wp2_with fail
          rw[qxq];exact qYq (v:=.tuple #[.int .i64 0,.slice none 0 0,.bool false]) oo rfl (EntsOut.no q.o ab.o.1)
        .have aq:¬((a1:Nat):Int)=(k:Int):=oM;have aF:(a1==k)=false:=by simpa using h1
         simp only[beq_self_eq_true,qxp]at j;rw[aF]at j;have q:=qqh (aC.o j);clear j;go_wp2_with fail
         rw[qxq];exact qYq (v:=.tuple #[.int .i64 0,.slice none 0 0,.bool false]) oo rfl (EntsOut.no q.o ab.o.1)
       .have aq:¬((a0:Nat):Int)=(bi:Int):=oM;have aF:(a0==bi)=false:=by simpa using bk
        rw[aF]at j;have q:=qqh (aC.o j);clear j bk;go_wp2_with fail
        rw[qxq];exact qYq (v:=.tuple #[.int .i64 0,.slice none 0 0,.bool false]) oo rfl (EntsOut.no q.o ab.o.1)
    .obtain rfl:k=l.length:=oM;have bY:¬((l.length:Int)<(l.length:Int)):=oM;have bl:readOk l=true:=by
      unfold readOk;rw[<-U,p,qYs aM,qxp,qxp,qxu];exact fun i ai=>a8 i (qzs.1 ai)
     rw[Nat.min_eq_right aM]at hsl;have ah:EntsOut w l (.returned (.tuple #[.int .i64 (readSeq l:Int),u7,.bool true])) wr:=
      ⟨u7,by rw[bl];rfl,by rw[bl];exact hsl,Y.mono oM,zj (qxl _ w) Z (qXp _) (fun _ h=>h)⟩
     have A:=qqh ah;clear ah bl hsl Y G a8 Z ad H ae T U bu ar a7 N ag hge bv W X p;go_wp2_with fail
     try rw[qxq]
     exact qYq (v:=.tuple #[.int .i64 (readSeq l:Int),u7,.bool true]) oo rfl A.o
  .have q2:((l.length:Int)<(readOf l:Int)):=oM;have aw:readOk l=false:=by unfold readOk;rw[decide_eq_false aM];simp
   have q:=qqh aw;clear aw aM;go_wp2_with fail
   rw[qxq];exact qYq (v:=.tuple #[.int .i64 0,.slice none 0 0,.bool false]) oo rfl (EntsOut.no q.o (Upd.below av.o.1))
def Ef(n k:Nat)(b:Bk):Bool:=okR b&&(decide (((numsR b).getD 0 0-1)%n=k)&&decide ((numsR b).getD 1 0=((numsR b).getD 0 0-1)/n))
def scL(n k:Nat)(b:Bk):List (List Nat):=if Ef n k b then[numsR b]else[]
def scanTo(F:List Bk)(O:List (Nat×Bk))(base n:Nat):Nat->List (List Nat)
 |0=>[]
 |k+1=>scanTo F O base n k++scL n k (curB F O (base+k))
def recCs(r:List Nat):List Value:=dsR (natsI r)
theorem wj(F:List Bk)(O:List (Nat×Bk))(base n:Nat):∀k,(scanTo F O base n k).length<=k
 |0=>qXp _
 |k+1=>by
  have:=wj F O base n k;rw[scanTo,qyy];unfold scL;split<;>simp<;>omega
theorem rW(h:okR b=true):1<=(numsR b).getD 0 0/\(numsR b).getD 0 0<=1099511627776/\(numsR b).getD 1 0<=1099511627776/\(numsR b).getD 2 0<=1/\(numsR b).getD 3 0<=4095/\(numsR b).getD 4 0<=1023/\(numsR b).getD 5 0<=1/\(numsR b).getD 6 0<=4294967295:=by
 unfold okR okGet at h;simp only[qxo]at h;have n:=h.2.2.2;unfold mayR at n;rw[qxo]at n;have F:(natsI (numsR b)).length=7:=by simp[natsI,numsR,zR,ST]
 have j:=n.1;have e:∀i (p:i<(natsI (numsR b)).length),(natsI (numsR b))[i]=((numsR b).getD i 0:Nat):=fun i p=>by
  simp only[natsI,qyt];rw[qyf,qyj (by simpa[natsI]using p)];rfl
 have q:=zJ j (i:=0) de oM;have w1:=zJ j (i:=1) de oM;have s:=zJ j (i:=2) de oM;have v:=zJ j (i:=3) de oM;have A:=zJ j (i:=4) de oM;have D:=zJ j (i:=5) de oM;have E:=zJ j (i:=6) de oM;rw[e]at q w1 s v A D E;simp only[bndR,qys,qyr]at q w1 s v A D E;omega
theorem zdE(h:okR b=false):¬cdR b=0:=by
 unfold okR at h;unfold cdR xp;rw[h];split
 .next h=>cases h
 .split<;>decide
theorem zdF(h:okR b=true):cdR b=0:=by
 unfold okR at h;unfold cdR xp;rw[h];rfl
theorem yJ(h:List Nat)(i:Nat):(natsI h).getD i 0=(h.getD i 0:Nat):=by
 simp only[natsI,qyf,qym];cases h[i]?<;>rfl
theorem Tn:∃i z,prog.info? 273=some i/\i.zero=some z/\z.cells.size=7/\i.size=7/\i.bytes=56:=by
 have h:(prog.info? 273).map (fun i=>(i.zero.map (·.cells.size),i.size,i.bytes))=some (some 7,7,56):=kR;obtain⟨i,n,j⟩:=qYc.1 h;simp only[qYe]at j;obtain⟨z,p,q⟩:=qYc.1 j.1;exact⟨i,z,n,p,q,j.2.1,j.2.2⟩
def ScI(D:Nat->Prop)(w0:World)(b p4:Nat)(F:List Bk)(O:List (Nat×Bk))(L:List (List Nat))(W:World):Prop:=
 Upd (fun j=>D j\/j=p4) w0 W/\∃v S1,W.heap[p4]?=some (.cells #[v] 185 (0,0))/\Sl W 273 7 v L.length (L.flatMap recCs)/\From w0.heap.size v/\
  Dv S1 W b F O []/\(∀j,S1 j->D j)/\(∀j,S1 j->j<W.heap.size)/\∀g,v.ownBlock=some g->¬S1 g
theorem ScI.new{D:Nat->Prop}{n W p:World}{b q:Nat}{F:List Bk}{O:List (Nat×Bk)}(h:ScI D n b q F O L W)(j:Upd (fun _=>False) W p):ScI D n b q F O L p:=by
 obtain⟨h1,s,v,h2,A,E,G,H,J,K⟩:=h;exact⟨h1.trans (j.mono fE),s,v,j.jV h2,A.keep j (fun _ _ h=>h),E,G.keep j (fun _ _ h=>h),H,fun M N=>qXs (J M N) j.size,K⟩
theorem zfy{D:Nat->Prop}{G W:World}{b ay az aA p:Nat}{F:List Bk}{O:List (Nat×Bk)}{base n:Nat}(h:ScI D G b p F O L W)(an:∀j,G.heap.size<=j->D j)(H:p<G.heap.size/\¬D p)
  (h1:G.cell? ⟨ay,0,none⟩=some (.pointer (some ⟨b,0,none⟩))/\¬D ay/\ay≠p) (h2:G.cell? ⟨az,0,none⟩=some (.int .i64 (n:Int))/\¬D az/\az≠p) (ag:G.cell? ⟨aA,0,none⟩=some (.int .i64 (base:Int))/\¬D aA/\aA≠p)
  (aT:k<n) (c6:n<=1024) (c7:base+n<=F.length) (c8:L.length<=1024) (bb:Nib G) (aU:¬D 1/\1≠p):
  Calls prog 176 #[.int .i64 ((base:Int)+(k:Int)),.pointer (some ⟨ay,0,none⟩),.pointer (some ⟨az,0,none⟩),.pointer (some ⟨aA,0,none⟩),.pointer (some ⟨p,0,none⟩)] W fun e bK=>
   e=.returned (.int .i64 0)/\ScI D G b p F O (L++scL n k (curB F O (base+k))) bK:=by
 obtain⟨a7,ao,aV,ap,hsl,E,M,ah,aK,aq⟩:=h;have c9:=M.good.fl;have c1:W.cell? ⟨ay,0,none⟩=some (.pointer (some ⟨b,0,none⟩)):=a7.jU h1.1 (fun h=>h.elim h1.2.1 h1.2.2);have aL:Nib W:=bb.keep a7 (fun h=>h.elim aU.1 aU.2);have bc:=qqh (wE (S:=fun j=>aV j\/W.heap.size<=j) (M.wide (fun _ h=> .inl h)) (fun _ h=> .inr h) (base+k) oM);rw[show((base+k:Nat):Int)=(base:Int)+(k:Int) by simp]at bc;have aB:=Y14 a7 ap hsl E M ah aK aq aL an H h1 h2 ag;clear a7 ap hsl E M ah aK aq aL an H h1 h2 ag bb;go_enter func176,ntmps176
 go_wp2_with fail
 refine bc.o.mono ?_;rintro e aM ⟨y,bL,rfl,hy,bd,aW,T,U⟩;have bM:bL=0:=by rw[bd];rfl
 have aC:y=curB F O (base+k):=by rw[hy];rfl
 subst bM;obtain⟨aX,aN⟩:=qqe (aM.alloc (.cells (bkC y).toArray 54));have a8:=qqu aN;have be:=qqg aN;have aY:=zf be;obtain⟨cb,aZ⟩:=qqe (aM.heap.size);rw[<-aZ]at aY;have bN:(bkC y).length=64:=by rw[zn,aW]
 have bf:=zv y aW;have aO:W.heap.size<=aX.heap.size:=qXr U.size a8.size;have bg:Nib aX:=(aB.o.2.2.2.2.2.2.2.2.1.keep U (fun h=>by
  rcases h with h|h
  .exact aU.1 (aB.o.2.2.2.2.2.1 _ h)
  .have:=aB.o.2.2.2.2.2.2.2.2.1.lt;omega)).keep a8 id
 have bO:=qqh (Ea bg y aW);have bh:=Y2 aN aZ;have bP:=Y5 T U a8 aC aO;clear T U a8 aC aO aN aZ be bg hy bd;go_upto_region 4 with(first
  |(refine zk rfl _ _ _ rfl _ _ (bkC y) rfl rfl (by rw[bN];rfl) bf (zu y) ?_)
  |fail)
 rw[<-bh.o.1,<-bh.o.2];go_wp2_with (first
  |(refine qZa rfl _ _ rfl _ _ rfl _ _ aY underlying54 rfl bf ?_)
  |fail)
 refine bO.o.mono ?_;rintro e bi ⟨⟨N,aa,b0,rfl⟩,b1⟩;have ai:N.length=7/\∀ao∈N,ao.oneCell'=true:=by
  cases aT:okR y with
  |true=>rw[aa aT];exact⟨qD _,wN _⟩
  |false=>rw[b0 aT];exact⟨rfl,qxu.1 (by simp[qd,Value.oneCell']:qd.all (·.oneCell')=true)⟩
 obtain⟨q,aD⟩:=qqe (bi.alloc (.cells N.toArray 273));have bj:Upd (fun _=>False) aX q:=by rw[aD];exact(uuo b1).alloc _
 have aj:=qqg aD;obtain⟨aE,aP⟩:=qqe (bi.heap.size);rw[<-aP]at aj;have cc:q.heap.size=aE+1:=by rw[aD,aP];simp
 have ak:=Y3 aD aP ai;obtain⟨T,U,a8,aC,aO⟩:=bP.o;obtain⟨a7,ap,hsl,E,M,ah,aK,aq,aL,an,H,h1,h2,ag⟩:=aB.o;have ar:Upd (fun _=>False) aM q:=a8.trans bj;have au:=a7.size;have bk:¬(aV p\/W.heap.size<=p):=fun h=>h.elim (fun h=>H.2 (ah _ h)) (fun h=>oM);have J:=ar.jV ((U.block p (zd ap) bk).trans ap);have ab:=(hsl.keep U (fun g s h=>h.elim (aq g s) (fun h=>by have:=hsl.lt s;omega))).keep ar (fun _ _ h=>h);have K:Upd (fun j=>D j\/j=p) G q:=(a7.trans (U.mono (fun j _ h=> .inl (h.elim (ah j) (fun h=>an j oM))))).trans (ar.mono fE);have bQ:∃am,Dv am q b F O []/\(∀j,am j->D j)/\(∀j,am j->j<q.heap.size/\j≠aE)/\∀g,ao.ownBlock=some g->¬am g:=by
  refine⟨fun j=>(aV j\/W.heap.size<=j)/\j<aM.heap.size,(T.kw (fun j h1 h2=>⟨h1,h2⟩)).keep ar (fun _ _ h=>h),fun j Q=>Q.1.elim (ah j) (fun h=>an j oM),fun j Q=>?_,fun g s aQ=>aQ.1.elim (aq g s) (fun h=>by have:=hsl.lt s;omega)⟩;have:=ar.size;have:=a8.size;have:=b1.size;exact⟨oM,oM⟩
 obtain⟨am,ad,V,X,Y⟩:=bQ;have av:ScI D G b p F O L q:=⟨K,ao,am,J,ab,E,ad,V,fun j Q=>(X j Q).1,Y⟩
 have bl:q.cell? ⟨az,0,none⟩=some (.int .i64 (n:Int)):=K.jU h2.1 (fun h=>h.elim h2.2.1 h2.2.2);have bn:q.cell? ⟨aA,0,none⟩=some (.int .i64 (base:Int)):=K.jU ag.1 (fun h=>h.elim ag.2.1 ag.2.2);have bR:=za J 0;have bS:=zg J 0;have cd:=qYh q _ bl;have ce:=qYh q _ bn;have cf:=zd J;have aF:=Y11 av J ab K ad V X Y E au H;have bo:=qqh aC;clear T U a8 aC aO a7 ap hsl E M ah aK aq aL an H h1 h2 ag ar au bk J ab K ad V X Y av bj b1 aD aP aY c1;go_upto_region 5 with(first
  |(refine zk rfl _ _ _ rfl _ _ N rfl rfl (by rw[ak.o.2.2.1];rfl) (by rw[ak.o.2.2.1];exact infoThR) ak.o.2.2.2 ?_)
  |fail)
 rw[<-ak.o.1,<-ak.o.2.1];cases Z:okR y with
 |false=>
  have q1:=zdE Z;have aG:scL n k (curB F O (base+k))=[]:=by rw[<-bo.out];unfold scL Ef;rw[Z];rfl
  have v:=qqh aG;generalize cdR y=bT at*;have q2:(bT==0)=false:=by simpa using q1
  clear Z aG aa b0 aj
  go_quiet(fail)
  go_wp2_with fail
  go_ret
  refine⟨rfl,?_⟩;rw[v.o,qxw];exact aF.o.1.new ((uur (fun _=>False) q).drewN nq)
 |true=>
  rw[zdF Z];obtain⟨ch,ci,cj,-⟩:=rW Z;rw[aa Z]at aj ai;have bU:q.cell? ⟨aE,0,none⟩=some (.int .i64 ((numsR y).getD 0 0:Nat)):=by rw[za aj 0];show some (Value.int .i64 ((natsI (numsR y)).getD 0 0))=_;rw[yJ]
  have m1:q.cell? ⟨aE,1,none⟩=some (.int .i64 ((numsR y).getD 1 0:Nat)):=by rw[za aj 1];show some (Value.int .i64 ((natsI (numsR y)).getD 1 0))=_;rw[yJ]
  have aG:scL n k (curB F O (base+k))=if decide (((numsR y).getD 0 0-1)%n=k)&&decide ((numsR y).getD 1 0=((numsR y).getD 0 0-1)/n)then[numsR y]else[]:=by rw[<-bo.out];unfold scL Ef;rw[Z];rfl
  have v:=qqh aG;have bp:=zf aj;have bq:N=recCs (numsR y):=aa Z;have b2:=Y2 bq bp;clear Z aG aa b0 aj ai bp bq;generalize (numsR y).getD 0 0=a0 at*;generalize (numsR y).getD 1 0=a1 at*;obtain⟨A,rfl⟩:∃A,a0=A+1:=⟨a0-1,oM⟩
  simp only[Nat.add_sub_cancel]at v;have cl:(A:Int)<=1099511627776:=oM;have co:(0:Int)<=(A:Int):=oM;have cp:IntKind.i64.wrap (A:Int)=(A:Int):=qxt _ oM;have cq:IntKind.i64.wrap (k:Int)=(k:Int):=qxt _ oM;have cr:(k:Int)<=1024:=oM;have ct:(0:Int)<=(k:Int):=oM;have cu:¬n=0:=oM;have b3:IntKind.i64.wrap ((base:Int)+(k:Int)-(base:Int))=(k:Int):=by
   rw[show(base:Int)+(k:Int)-(base:Int)=(k:Int) by omega];exact qxt _ oM
  have b4:(A:Int).tmod (n:Int)=((A%n:Nat):Int):=(Int.ofNat_tmod A n).symm;have M:(A:Int).tdiv (n:Int)=((A/n:Nat):Int):=by rw[Int.tdiv_eq_ediv_of_nonneg oM,<-Int.natCast_ediv]
  have bV:A/n<=A:=Nat.div_le_self _ _;generalize A%n=ae at*;generalize A/n=aR at*;have T:IntKind.i64.wrap (aR:Int)=(aR:Int):=qxt _ oM;clear bV;by_cases b5:ae=k
  .subst b5;have q1:((ae:Nat):Int)==(ae:Int):=oe;by_cases b6:a1=aR
   .subst b6;rw[qYs rfl,qYs rfl]at v;replace v:Hid (scL n ae (curB F O (base+ae))=[numsR y]):=v
    go_quiet(fail)
    clear b3 b4 M T;have R:=(uur (fun _=>False) q).drewN nq;generalize q.drewN nq=bW at*;obtain⟨av,J,ab,K,ad,V,X,Y,E,au,H⟩:=aF.o;have af:=R.jV J;have cv:=za af 0;have f6:=zg af 0;have bX:=zd af;have br:q.rangeAt aE 0 N:=by rw[b2.o.1];exact b2.o.2
    have bs:=R.range br id;clear br;have bt:=ab.keep R (fun _ _ h=>h);have ai:N.length=7:=ak.o.2.2.1;have aa:=ak.o.2.2.2;have bu:(prog.info? 273).map (·.size)=some N.length:=by rw[ai];exact infoThR
    obtain⟨bv,bx,bz,bA,bB,bC,bD⟩:=Tn;have a6:=Y5 bz bA bB bC bD;have aw:=Y5 bt ai aa bu bs;have bY:=Y2 R af;have bZ:Hid (L.length+1<=maxLen):=by show _<=_;unfold maxLen;omega
    have c0:Hid ((L.length+1)*56<=140737488355328):=by show _<=_;omega
    clear av J ab K ad V X Y E au H af bt ai aa bu bs R bl bn bR bS bU m1 bz bA bB bC bD q1;go_wp2_with (first
     |(refine qZa rfl 273 _ rfl _ _ rfl _ _ aw.o.2.2.2.2 underlying273 rfl aw.o.2.2.2.1 ?_)
     |(refine yD rfl 185 273 _ rfl 7 de underlying185 ⟨bv,bx,a6.o.1,a6.o.2.1,a6.o.2.2.1,a6.o.2.2.2.1⟩ de N rfl aw.o.2.1 ?_)
     |(at_builtin;refine zK rfl _ _ 185 rfl bv bx 56 underlying185 a6.o.1 a6.o.2.1 a6.o.2.2.2.1 a6.o.2.2.2.2 a6.o.2.2.1 de rfl aw.o.1 N rfl aw.o.2.1 aw.o.2.2.1 bZ.out c0.out ?_;intro cx bE b7 aH bF;obtain⟨aI,aJ,rfl⟩:=b7.rd.jW;refine Stop.i ?_)
     |fail)
    obtain⟨av,J,ab,K,ad,V,X,Y,E,au,H⟩:=aF.o;obtain⟨R,af⟩:=bY.o;have bG:ao.ownBlock≠some p:=fun e=>by
     have:=E p e;omega
    have aS:=(aH.block p bX (fun h=>bG h)).trans af;have b8:=zh aS 0 (.slice aI (L.length+1) aJ);have ax:=zi bE p 0 (.slice aI (L.length+1) aJ);have cy:=za aS 0;have f7:=zg aS 0;obtain⟨c3,b9⟩:=qqe (bE.setCell ⟨p,0,none⟩ (.slice aI (L.length+1) aJ));rw[<-b9]at b8 ax;have ba:∀g,(Value.slice aI (L.length+1) aJ).ownBlock=some g->ao.ownBlock=some g\/bW.heap.size<=g:=fun g s=>by
     rcases bF with e|⟨cz,e,hge⟩
     .rw [e]at s;exact .inl s
     .rw [e]at s;cases s;exact .inr hge
    have bH:=aB.o.2.2.2.2.2.2.2.2.2.1;have cA:=R.size;have bI:ScI D G b p F O (L++[numsR y]) c3:=by
     have bJ:From G.heap.size (.slice aI (L.length+1) aJ):=fun g s=>by
      rcases ba g s with h|h
      .exact E g h
      .have:=K.size;omega
     refine⟨((K.trans (R.mono fE)).trans (aH.mono (fun j _ h=> .inl (bH j (E j h))))).trans (ax.mono (fun j _ h=> .inr h)),_,am,b8,?_,bJ,?_,V,fun j Q=>?_,fun g s aQ=>?_⟩
     .rw [qyy,qyd,qye,List.flatMap_nil,qxw,<-b2.o.1];exact b7.keep ax (fun g s e=>by
       have:=bJ g s;omega)
     .exact ((ad.keep R (fun _ _ h=>h)).keep aH (fun j Q h=>Y j h Q)).keep ax (fun j Q e=>H.2 (e▸V j Q))
     .have:=(X j Q).1;have:=aH.size;have:=ax.size;omega
     .rcases ba g s with h|h
      .exact Y g h aQ
      .have:=(X g aQ).1;omega
    have c4:=qqh bI;have c5:=qqh b9;clear av J ab K ad V X Y E au H R af bG aS b8 ax ba bH bI b7 aH bF b9;unfold Stop;go_wp2_with fail
    go_ret
    rw[<-c5.o];refine⟨rfl,?_⟩;rw[v.o];exact c4.o
   .have q2:¬((a1:Nat):Int)=(aR:Int):=oM;rw[decide_eq_false b6,Bool.and_false]at v;replace v:Hid (scL n ae (curB F O (base+ae))=[]):=v;clear b6
    go_quiet(fail)
    clear b3 b4 M T;go_wp2_with fail
    go_ret
    refine⟨rfl,?_⟩;rw[v.o,qxw];exact aF.o.1.new ((uur (fun _=>False) q).drewN nq)
  .have q1:¬((ae:Nat):Int)=(k:Int):=oM;rw[decide_eq_false b5]at v;replace v:Hid (scL n k (curB F O (base+k))=[]):=v;clear b5
   go_quiet(fail)
   clear b3 b4 M T;go_wp2_with fail
   go_ret
   refine⟨rfl,?_⟩;rw[v.o,qxw];exact aF.o.1.new ((uur (fun _=>False) q).drewN nq)
def rseq(r:List Nat):Nat:=r.getD 0 0
structure RepS where
 d:List (List Nat)
 g:Nat
 l:Nat
def repStep(s:RepS)(r:List Nat):RepS:=if rseq r=s.l+1 then⟨s.d++[r],max s.g (rseq r),rseq r⟩else ⟨s.d,max s.g (rseq r),s.l⟩
def repS(L:List (List Nat))(after:Nat):RepS:=L.foldl repStep ⟨[],after,after⟩
theorem Zs(L:List (List Nat))(after:Nat)(h:k<L.length):repS (L.take (k+1)) after=repStep (repS (L.take k) after) L[k]:=by
 rw[qXk h,repS,List.foldl_append];rfl
theorem VM{s:RepS}{r:List Nat}{N:Nat}(j:s.g<=N/\s.l<=N)(n:rseq r<=N):(repStep s r).g<=N/\(repStep s r).l<=N/\(repStep s r).d.length<=s.d.length+1:=by
 unfold repStep;split
 .exact ⟨Nat.max_le.2 ⟨j.1,n⟩,n,oe⟩
 .exact ⟨Nat.max_le.2 ⟨j.1,n⟩,j.2,oe⟩
theorem Yq{L:List (List Nat)}{after N:Nat}(j:after<=N)(n:∀r∈L,rseq r<=N):∀k,k<=L.length->(repS (L.take k) after).g<=N/\(repS (L.take k) after).l<=N/\(repS (L.take k) after).d.length<=k
 |0,_=>⟨j,j,qXp _⟩
 |k+1,p=>by
  obtain⟨h1,h2,q⟩:=Yq j n k oM;obtain⟨q1,q2,s⟩:=VM (r:=L[k]'oM) ⟨h1,h2⟩ (n _ (qyu _));rw[Zs L after oM];exact⟨q1,q2,oM⟩
def zdG(w:World)(r:RepS)(e:Ending)(w':World):Prop:=
 ∃v,e=.returned (.tuple #[v,.int .i64 (r.g:Nat)])/\Sl w' 273 7 v r.d.length (r.d.flatMap recCs)/\From w.heap.size v/\Below w.heap.size w w'
theorem Eg{g o:Nat}(p:∀h u,(L.flatMap recCs)[h]?=some u->w.cell? ⟨g,o+h,none⟩=some u)(j:k<L.length):w.rangeAt g (o+k*7) (recCs L[k]):=by
 intro h q n;have s:h<7:=(qyl.1 n).1;rw[qXl];refine p _ q ?_;have:∀(L:List (List Nat)) (k:Nat) (j:k<L.length),(L.flatMap recCs)[k*7+h]?=(recCs L[k])[h]?:=by
  intro L
  induction L with
  |nil=>intro k j;simp at j
  |cons x L v=>
   intro k j;rw[qye];cases k with
   |zero=>rw[qYa,qXy,qyg (by show h<7;exact s)];rfl
   |succ k=>
    rw[qyh (by show 7<=_;omega)];show(L.flatMap recCs)[(k+1)*7+h-7]?=_;rw[show(k+1)*7+h-7=k*7+h by omega];exact v k (by simpa using j)
 rw[this L k j];exact n
theorem zbb{v:Value}(N:Rd w 7 v L.length (L.flatMap recCs))(after:Nat)(aE:after<=1099511627776)(aF:∀r∈L,rseq r<=1099511627776)(aU:L.length<=1024):
  Calls prog 104 #[v,.int .i64 (after:Int)] w (zdG w (repS L after)):=by
 obtain⟨aV,aW,rfl⟩:=N.jW;have F:=Y3 N aE aF;clear N;go_enter func104,ntmps104
 go_wp2
 go_step3
 go_wp2
 go_step3
 go_wp2_with fail
 go_loopg[6,7,8,15] L.length (fun gk a6 aG aH aI wr=>∃k:Nat,∃r:RepS,k+gk=L.length/\aI=.int .i64 (k:Int)/\r=repS (L.take k) after/\aG=.int .i64 (r.g:Nat)/\aH=.int .i64 (r.l:Nat)/\Sl wr 273 7 a6 r.d.length (r.d.flatMap recCs)/\From w.heap.size a6/\Below w.heap.size w wr)
 case atStart=>exact⟨0,⟨[],after,after⟩,oM,rfl,rfl,rfl,rfl,Sl.nil _ _ _,From.nil _ _ _,qxl _ _⟩
 case round=>
  obtain⟨k,r,aX,rfl,s,rfl,rfl,hsl,G,A⟩:=hrel;by_cases hlt:k<L.length
  .have aJ:(k:Int)<(L.length:Int):=oM;have aY:(0:Int)<=(k:Int):=oM;obtain⟨g,o,aZ,e,b0,a7⟩:=F.o.1.at oM;cases e;obtain⟨aK,aL,aM⟩:=Yq F.o.2.1 F.o.2.2 k oM;rw[<-s]at aK aL aM;have hx:=Eg a7 hlt;have H:=Zs L after hlt;rw[<-s]at H;have aN:=F.o.2.2 _ (qyu hlt);obtain⟨x,a8⟩:=qqe (L[k]);rw[<-a8]at hx H aN;have aa:wr.rangeAt g (o+k*7) (recCs x):=Below.range A hx;have aO:wr.cell? ⟨g,o+k*7,none⟩=some (.int .i64 (rseq x:Nat)):=by
    have:=aa 0 (.int .i64 ((natsI x).getD 0 0)) rfl;rw[yJ]at this;exact this
   have ab:(recCs x).length=7:=rfl;have O:∀v∈recCs x,v.oneCell'=true:=wN (natsI x);have aP:(prog.info? 273).map (·.size)=some (recCs x).length:=infoThR;obtain⟨Q,J⟩:=qqe (wr.alloc (.cells (recCs x).toArray 273));have R:=qqu J;have ad:=qqg J;have K:=zf ad;have S:Q.cell? ⟨wr.heap.size,0,none⟩=some (.int .i64 (rseq x:Nat)):=by
    have:=K 0 (.int .i64 ((natsI x).getD 0 0)) rfl;rw[yJ]at this;exact this
   obtain⟨M,T⟩:=qqe (wr.heap.size);rw[<-T]at K S;have ae:=Y3 J T O;have af:=hsl.keep R (fun _ _ h=>h);have ag:=A.trans ((Upd.below R).mono A.size);obtain⟨ah,ai,aj,ak,am,an,ao⟩:=Tn;have n:=Y5 aj ak am an ao;have ap:Hid (r.d.length+1<=maxLen):=by show _<=_;unfold maxLen;omega
   have aq:Hid ((r.d.length+1)*56<=140737488355328):=by show _<=_;omega
   have j:=Y6 af G ag H ap.out aq.out;have aQ:Hid (u6.ownBlock≠some M):=fun e=>by have:=hsl.lt e;omega
   have ar:Hid (recCs x=recCs x):=rfl;have HX:=Y4 ab aP O K;clear hsl G A a7 hx H O af ag J R ad K T aO a8 aj ak am an ao ab s;have aR:Hid (∃z,rseq x=z):=⟨_,rfl⟩
   generalize au:rseq x=z at*;have p:=qqh au;clear au aR;generalize av:recCs x=U at*;replace ar:=qqh av;clear av;go_upto_region 6 with(first
    |(refine qZa rfl 273 _ rfl _ _ rfl _ _ aa underlying273 rfl HX.o.2.1 ?_)
    |(refine zk rfl _ _ _ rfl _ _ U rfl rfl jL HX.o.2.1 HX.o.2.2.1 ?_)
    |fail)
   rw[<-ae.o.1,<-ae.o.2.1];by_cases aw:z=r.l+1
   .subst aw;have q1:¬(((r.l+1:Nat):Int)<=(r.l:Int)):=oM;have D:repStep r x=⟨r.d++[x],max r.g (r.l+1),r.l+1⟩:=by unfold repStep;rw[if_pos p.o,p.o]
    have q:=qqh D;clear D;rcases Nat.lt_or_ge r.g (r.l+1)with E|E
    all_goals
     have aS:(r.g:Int)<((r.l+1:Nat):Int)\/((r.l+1:Nat):Int)<=(r.g:Int):=oM
     first
      |(have V:(r.g:Int)<((r.l+1:Nat):Int):=by omega)
      |(have V:((r.l+1:Nat):Int)<=(r.g:Int):=by omega)
     clear aS;go_wp2_with (first
      |(refine qZa rfl 273 _ rfl _ _ rfl _ _ HX.o.2.2.2 underlying273 rfl HX.o.2.1 ?_)
      |(refine yD rfl 185 273 _ rfl 7 de underlying185 ⟨ah,ai,n.o.1,n.o.2.1,n.o.2.2.1,n.o.2.2.2.1⟩ de U rfl HX.o.1 ?_)
      |(at_builtin;refine zK rfl _ _ 185 rfl ah ai 56 underlying185 n.o.1 n.o.2.1 n.o.2.2.2.1 n.o.2.2.2.2 n.o.2.2.1 de rfl j.o.1 U rfl HX.o.1 HX.o.2.2.1 ap.out aq.out ?_;intro b1 W X Y ax;obtain⟨ay,az,rfl⟩:=X.rd.jW;refine Stop.i ?_)
      |fail)
     unfold Stop;have aT:M<Q.heap.size:=qYh Q _ S;have aA:u6.ownBlock≠some M:=aQ.o;have b2:W.cell? ⟨M,0,none⟩=some (.int .i64 ((r.l+1:Nat):Int)):=(Y.cellAt aT (fun h=>aA h)).trans S;have aB:Below w.heap.size w W:=zj j.o.2.2.1 Y (qXp _) (fun g E=>j.o.2.1 g E);have aC:From w.heap.size (.slice ay (r.d.length+1) az):=ax.ge (j.o.2.2.1.size) j.o.2.1;have aD:Sl W 273 7 (.slice ay (r.d.length+1) az) (repStep r x).d.length ((repStep r x).d.flatMap recCs):=by
      rw[q.o];simp only[qyy,qyd,qye,List.flatMap_nil,qxw,qyz,qzc];rw[ar.o];exact X
     have Z:=Y3 aB aC aD;clear aB aC aD X Y ax aA;go_wp2_with fail
     go_roundg (gk-1)
     case measure=>omega
     case rel=>
      refine⟨k+1,repStep r x,oM,by go_num,j.o.2.2.2.1.symm,?_,by rw[q.o];simp,Z.o.2.2,Z.o.2.1,Z.o.1⟩;rw[q.o];simp only[]
      first
       |(congr 1;omega)
       |(simp;omega)
       |(rw[Nat.max_eq_right oM];done)
       |(rw[Nat.max_eq_left oM];done)
       |(rw[Nat.max_eq_right oM];simp;done)
       |(rw[Nat.max_eq_left oM];simp)
   .have q1:¬(((z:Nat):Int)=(r.l:Int)+1):=oM;have D:repStep r x=⟨r.d,max r.g z,r.l⟩:=by unfold repStep;rw[if_neg (by rw[p.o];exact aw),p.o]
    have q:=qqh D;clear D;rcases Nat.lt_or_ge r.g z with E|E
    all_goals
     first
      |(have V:(r.g:Int)<(z:Int):=by omega)
      |(have V:(z:Int)<=(r.g:Int):=by omega)
     by_cases b3:(z:Int)<=(r.l:Int)
     all_goals
      go_wp2_with fail
      go_roundg (gk-1)
      case measure=>omega
      case rel=>
       refine⟨k+1,repStep r x,oM,by go_num,j.o.2.2.2.1.symm,?_,by rw[q.o],?_,j.o.2.1,j.o.2.2.1⟩
       .rw [q.o];simp only[]
        first
         |(congr 1;omega)
         |rw[Nat.max_eq_right oM]
         |rw[Nat.max_eq_left oM]
       .rw [q.o];exact j.o.1
  .obtain rfl:k=L.length:=oM;have aJ:¬((L.length:Int)<(L.length:Int)):=oM;rw[qXj (qXp _)]at s;have p:=Y4 hsl G A s;clear hsl G A s;go_wp2_with fail
   try rw[qxq]
   go_ret2
   rw[<-p.o.2.2.2];exact⟨u6,rfl,p.o.1,p.o.2.1,p.o.2.2.1⟩
end Go.Proofs.YtbnpkobbnjihjaaGreatDoor
