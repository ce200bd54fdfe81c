/- A volume's Rea -/
import Derived.Test.YtpejdgiccaijfaaGreatDoorG27
import Derived.Test.YtpejdgiccaijfaaGreatDoorG23
import Derived.Test.YtpejdgiccaijfaaGreatDoorG28
set_option maxRecDepth 100000
set_option maxHeartbeats 4000000
namespace Go.Proofs.YtpejdgiccaijfaaGreatDoor
open Go Go.RowKit Tryz
variable{u kp lv:Value}{b N:Nat}{cs:Array Value}{F L:List Bk}{cd m fr fi d f nn:Int}{t T:TypeId}{S:Nat->Prop}
structure VoFr(own0:Nat->Nat)(w0:World)(v:Nat)(q:VoP)(n:CaN)(p:CaP)(md:Int)(own:Nat->Nat)(W:World)(a:CaS):Prop where
 vo:VolAt own W v q n p a md false
 d:Did own0 own w0 W
 b:v<w0.heap.size/\q.lb<w0.heap.size/\q.mb<w0.heap.size/\0<w0.heap.size/\1<w0.heap.size
section
variable{own0 own own':Nat->Nat}{w0 W W':World}{v:Nat}{q:VoP}{n:CaN}{p:CaP}{a a':CaS}{md:Int}
theorem VoFr.start(h:VolAt own W v q n p a md false):VoFr own W v q n p md own W a:=⟨h,Did.refl h.ca.far,zd h.g,zd h.lk.1,h.lk.2.lt,h.ca.nib.lt,h.ca.tur.lt⟩
theorem VoFr.did(h:VoFr own0 w0 v q n p md own W a)(j:CaAt own' W' q.c n p a')(d:Did own own' W W'):VoFr own0 w0 v q n p md own' W' a':=⟨h.vo.did j d,h.d.trans d,h.b⟩
theorem VoFr.new(h:VoFr own0 w0 v q n p md own W a)(hu:Upd (fun _=>False) W W'):VoFr own0 w0 v q n p md own W' a:=h.did (h.vo.ca.new hu) (h.vo.ca.ko hu)
theorem VoFr.aside(h:VoFr own0 w0 v q n p md own W a)(hu:Upd S W W')(A:∀j,S j->w0.heap.size<=j/\own j=0):VoFr own0 w0 v q n p md own W' a:=by
 obtain⟨E,G,H,J,M⟩:=h.b;have s:∀j,j<w0.heap.size->¬S j:=fun j D k=>absurd (A j k).1 oM;exact⟨⟨h.vo.ca.ky hu (fun j k=>⟨(A j k).2,fun e=>s j (e▸J) k,fun e=>s j (e▸M) k⟩),(hu.block v (zd h.vo.g) (s v E)).trans h.vo.g,h.vo.lk.keep hu (s _ G) (s _ H),h.vo.o1,h.vo.o2,h.vo.o3⟩,
  ⟨h.d.upd.new hu (fun i O k=>absurd k (s i O)),h.d.old,h.d.new,fun j D=>h.d.far j (qXr hu.size D)⟩,h.b⟩
def Bo(own:Nat->Nat)(W:World)(b:Nat)(cs:Array Value)(t:TypeId):Prop:=W.heap[b]?=some (.cells cs t (0,0))/\own b=0
theorem Bo.did(h:Bo own W b cs t)(d:Did own own' W W'):Bo own' W' b cs t:=d.zero h.1 h.2
theorem Bo.keep(h:Bo own W b cs t)(hu:Upd S W W')(j:¬S b):Bo own W' b cs t:=⟨(hu.block b (zd h.1) j).trans h.1,h.2⟩
theorem Bo.cell(h:Bo own W b cs t)(k:Nat):W.cell? ⟨b,k,none⟩=cs[k]?:=za h.1 k
def Ro(w0:World)(own:Nat->Nat)(W:World)(v:Value)(F:List Bk):Prop:=Sl W 60 64 v F.length (rowC F)/\∀g,v.ownBlock=some g->w0.heap.size<=g/\own g=0
theorem Ro.did(h:Ro w0 own W u F)(d:Did own own' W W'):Ro w0 own' W' u F:=
 ⟨h.1.keep d.upd (fun g j k=>k.1 (h.2 g j).2),fun g j=>⟨(h.2 g j).1,(d.old g (h.1.lt j)).trans (h.2 g j).2⟩⟩
theorem Ro.keep(h:Ro w0 own W u F)(hu:Upd S W W')(j:∀g,u.ownBlock=some g->¬S g):Ro w0 own W' u F:=⟨h.1.keep hu j,h.2⟩
theorem Ro.ne(j:Ro w0 own W u F)(h:W.heap[b]?=some (.cells cs t (0,0)))(k:t≠60):¬ownS u b:=by
 intro e;obtain⟨-,⟨rfl,-⟩|⟨g,A,D,E,rfl,s,-⟩⟩:=j.1
 .cases e
 .cases e;rw[s]at h;cases h;exact k rfl
def CaS.rdL(n:CaN)(f:Int)(a:CaS)(k:Nat):List Bk:=(List.range k).map fun j=>(CaS.rdC n f a j).1
theorem CaS.rdL_len(n:CaN)(f:Int)(a:CaS)(k:Nat):(CaS.rdL n f a k).length=k:=by simp[CaS.rdL]
theorem CaS.rdL_snoc(n:CaN)(f:Int)(a:CaS)(k:Nat):CaS.rdL n f a (k+1)=CaS.rdL n f a k++[(CaS.rdC n f a k).1]:=by simp[CaS.rdL,List.range_succ]
def RdSt(own0:Nat->Nat)(w0:World)(v:Nat)(q:VoP)(n:CaN)(p:CaP)(md:Int)(a:CaS)(f:Int)(vb lb sb:Nat)(sv:Array Value)(k:Nat)(W:World):Prop:=
 ∃own lv,VoFr own0 w0 v q n p md own W (CaS.rdN n f a k)/\Bo own W vb #[ptr v] 49/\Bo own W sb sv 52/\Bo own W lb #[lv] 32/\w0.heap.size<=lb/\Ro w0 own W lv (CaS.rdL n f a k)
theorem zdB{af lb sb k:Nat}{av:Array Value}(h:RdSt own0 w0 v q n p md a f af lb sb av k W)(aw:(CaS.rdC n f a k).2=0)(ba:k<4096):
  Calls prog 102 #[.int .i64 (f+(k:Int)),ptr af,ptr lb] W fun e W'=>e=.returned (.int .i64 0)/\RdSt own0 w0 v q n p md a f af lb sb av (k+1) W':=by
 obtain⟨own,lv,ag,ah,ax,bl,Q,ay⟩:=h;have c1:=ah.cell 0;have az:=qqh (Ry ag.vo (f+(k:Int)));have E:=Y7 ag ah ax bl Q ay aw;simp at c1;clear ag ah ax bl Q ay aw;go_enter func102,ntmps102
 go_wp2_with fail
 refine az.o.mono ?_;rintro e bb ⟨rfl,aA⟩;have U:=qqb aA;have G:=E.o.1.new U;have V:=E.o.2.1.keep U id;have c1:=V.cell 0;have c2:=za G.vo.g 0;simp[Zb]at c1 c2;have aB:=qqh (TF G.vo.ca (f+(k:Int)));have aZ:=Y5 G V (E.o.2.2.1.keep U id) (E.o.2.2.2.1.keep U id) (E.o.2.2.2.2.2.1.keep U (fun _ _ h=>h));clear aA U G V az;go_wp2_with fail
 refine aB.o.mono ?_;rintro e aC ⟨y,cd,hy,aD,aE,rfl,a6,aF,X⟩;have b0:cd=0:=aD.trans E.o.2.2.2.2.2.2;subst b0;obtain⟨G,V,aG,aH,aI⟩:=aZ.o;have aJ:VoFr own0 w0 v q n p md a6 aC (CaS.rdN n f a (k+1)):=G.did aF X;obtain⟨a8,aa⟩:=qqe (aC.alloc (.cells (bkC y).toArray 60));have Y:=qqu aa;have aK:=qqg aa;have aL:=zg aK;have j:=(aH.did X).keep Y id;have H:=(aI.did X).keep Y (fun _ _ h=>h);have b1:=j.cell 0;simp at b1;have ai:(bkC y).length=64:=by rw[zm,aE]
 have aM:(prog.info? 60).map (·.size)=some (bkC y).length:=by rw[ai];exact zM
 obtain⟨aN,z,aO,aP,aQ,aR,aS⟩:=yt;have s:=Y5 aO aP aQ aR aS;have A:=Y4 ai (zx y) aM hy;have aT:=H.1;have b2:=qqh (show Sl a8 60 64 lv k (rowC (CaS.rdL n f a k)) by have:=H.1;rwa[CaS.rdL_len]at this);have b3:=Y5 (aJ.new Y) ((V.did X).keep Y id) ((aG.did X).keep Y id) j H;have b4:=qqh aa;rw[CaS.rdL_len]at aT;obtain⟨aj,ak,rfl⟩:=aT.rd.j6;clear hy aD aE aF X G V aG aH aI aJ Y aK j H aa ai aM aO aP aQ aR aS c1 c2 aB;go_wp2_with (first
  |(refine zk rfl _ _ _ rfl _ _ (bkC y) rfl rfl (by rw[A.o.1];rfl) A.o.2.2.1 A.o.2.1 ?_;refine Stop.i ?_)
  |fail)
 unfold Stop;rw[<-b4.o];go_wp2_with (first
  |(refine qYz rfl _ _ rfl _ _ rfl _ _ aL underlying60 rfl A.o.2.2.1 ?_)
  |(refine yB rfl 32 60 _ rfl 64 de underlying32 ⟨aN,z,s.o.1,s.o.2.1,s.o.2.2.1,s.o.2.2.2.1⟩ de (bkC y) rfl A.o.1 ?_)
  |(at_builtin;refine zK rfl _ _ _ rfl aN z 64 underlying32 s.o.1 s.o.2.1 s.o.2.2.2.1 s.o.2.2.2.2 s.o.2.2.1 de rfl b2.o (bkC y) oE A.o.1 A.o.2.1 oj oM ?_;intro J am ab M Z;refine Stop.i ?_)
  |fail)
 obtain⟨b5,b6,rfl⟩:=ab.rd.j6;obtain⟨J,ad⟩:=qqe (Value.slice b5 (k+1) b6);rw[<-ad]at ab Z;obtain⟨ae,an,ao,j,H⟩:=b3.o;replace M:Upd (ownS (.slice aj k ak)) a8 am:=M;replace Z:blockFrom a8 (.slice aj k ak) J:=Z;have O:Ro w0 a6 a8 (.slice aj k ak) (CaS.rdL n f a k):=H;have Q:=E.o.2.2.2.2.1;have aU:=ae.aside M (fun ap aq=>O.2 ap aq);have ar:=an.keep M (O.ne an.1 de);have au:=ao.keep M (O.ne ao.1 de);have D:=j.keep M (O.ne j.1 de);have aV:J.ownBlock≠some lb:=fun e=>by
  rcases Z with h|⟨g,h,hg⟩
  .exact O.ne j.1 de (h.symm.trans e)
  .rw [h]at e;cases e;exact absurd (zd j.1) oM
 have aW:∀g,J.ownBlock=some g->w0.heap.size<=g/\a6 g=0:=fun g hg=>by
  rcases Z with h|⟨bc,h,aX⟩
  .exact O.2 g (h.symm.trans hg)
  .rw [h]at hg;cases hg;exact⟨qXr (qXr (Nat.le_of_lt (zd j.1)|>fun _=>ae.d.upd.size) (qXp _)) aX,ae.vo.ca.far g aX⟩
 have bd:=qqh ad;have b7:=D.cell 0;have f5:=zf D.1 0;simp at b7;have a7:=zi am lb 0 J;have aY:=Y7 (aU.aside a7 (fun ap (aq:ap=lb)=>by rw[aq];exact⟨Q,D.2⟩)) (ar.keep a7 (fun e=>by
  have h1:=ar.1;have h2:=D.1;rw[e,h2]at h1;cases h1)) (au.keep a7 (fun e=>by
  have h1:=au.1;have h2:=D.1;rw[e,h2]at h1;cases h1)) (show Bo a6 (am.setCell ⟨lb,0,none⟩ J) lb #[J] 32 from⟨xo D.1,D.2⟩) Q (ab.keep a7 (fun g hg e=>aV kj)) aW
 rw[ad]at aY;clear ae an ao j H M Z O Q aU ar au D aV aW a7 ab aL ad;unfold Stop;go_wp2
 go_ret
 obtain⟨a1,a2,a3,a4,a5,b8,b9⟩:=aY.o;refine⟨rfl,a6,_,a1,a2,a3,a4,a5,?_,b9⟩;rw[CaS.rdL_len,CaS.rdL_snoc,ww,show(CaS.rdC n f a k).1=y from A.o.2.2.2.symm];exact b8
theorem zbk(h:VolAt own W v q n p a md false)(U:inS n.bl f N)(ag:∀M,M<N->(CaS.rdC n f a M).2=0):
  Calls prog 62 #[ptr v,sI f N] W fun e W'=>∃u own',e=.returned (.tuple #[u,.int .i64 0])/\VolAt own' W' v q n p (CaS.rdN n f a N) md false/\Did own own' W W'/\Ro W own' W' u (CaS.rdL n f a N):=by
 have aH:=h.ca.ok.b2;have a8:N<=4096:=by obtain⟨-,-,aQ,-⟩:=U;omega
 have ah:0<=f/\f+N<=4096:=by obtain⟨aR,-,-,aS⟩:=U;omega
 obtain⟨s,V⟩:=qqe (W.heap.size);obtain⟨w1,O⟩:=qqe ((W.alloc (.cells #[ptr v] 49)).alloc (.cells #[.int .i64 f,.int .i64 (N:Int)] 52));have ai:Upd (fun _=>False) W w1:=by rw[O];exact((uur _ W).alloc _).alloc _
 have aj:w1.heap[s]?=some (.cells #[ptr v] 49 (0,0)):=by rw[O,V];exact(qxk _ _ _ oe).trans (zc W _ rfl)
 have aa:w1.heap[s+1]?=some (.cells #[.int .i64 f,.int .i64 (N:Int)] 52 (0,0)):=by rw[O,V];exact zc _ _ oe
 have X:VoFr own W v q n p md own w1 a:=(VoFr.start h).new ai;have A:Bo own w1 s #[ptr v] 49:=⟨aj,h.ca.far _ oM⟩
 have Q:Bo own w1 (s+1) #[.int .i64 f,.int .i64 (N:Int)] 52:=⟨aa,h.ca.far _ oM⟩
 obtain⟨ab,ak,aT⟩:=Uc N a8;have am:=A.cell 0;have an:=zg aa;simp at am;have ao:=qqh (yp X.vo);have ap:=qqh (zbc X.vo U);have H:=Y8 X A Q ah a8 ak ag O;have aq:=underlying52;have ar:=yz;have aU:=qqf;clear h U aH ah a8 O ai aj aa X A Q ak ag;go_enter func62,ntmps62
 go_upto_region 1 with fail
 rw[<-H.o.2.2.2.2.2.2.2,<-V];clear V;go_wp2_with fail
 refine ao.o.mono ?_;rintro e aV ⟨rfl,rfl⟩;go_wp2_with (first
  |(refine qYz rfl _ _ rfl _ _ rfl _ _ an aq rfl ar ?_)
  |fail)
 refine ap.o.mono ?_;rintro e G ⟨rfl,au⟩;have D:=uuo (S:=fun _=>False) au;have aI:=(H.o.2.2.1.keep D id).cell 1;simp at aI;obtain⟨j,E⟩:=qqe (G.heap.size);obtain⟨k,J⟩:=qqe ((G.alloc (.cells ab 60)).alloc (.cells #[.slice (some ⟨j,0,none⟩) 0 N] 32));have Y:Upd (fun _=>False) G k:=by rw[J];exact((uur _ G).alloc _).alloc _
 have av:k.heap[j]?=some (.cells ab 60 (0,0)):=by rw[J,E];exact(qxk _ _ _ oe).trans (zc G _ rfl)
 have gl:k.heap[j+1]?=some (.cells #[.slice (some ⟨j,0,none⟩) 0 N] 32 (0,0)):=by rw[J,E];exact zc _ _ oe
 have Z:k.heap.size=j+2:=by rw[J,E];simp
 have aw:W.heap.size<=j:=by rw[E];exact(H.o.1.new D).d.upd.size
 have ax:=(H.o.1.new D).new Y;have A:=(H.o.2.1.keep D id).keep Y id;have Q:=(H.o.2.2.1.keep D id).keep Y id;have ay:=zg Q.1;have az:=A.cell 0;simp at az;have a6:∀ad,G.heap.size<=ad->own ad=0:=(H.o.1.new D).vo.ca.far;have aA:Ro W own k (.slice (some ⟨j,0,none⟩) 0 N) []:=by
  refine⟨⟨rfl,.inr ⟨j,0,N,ab,rfl,av,qXz _,by have:=H.o.2.2.2.2.1;unfold maxLen;omega,by rw[H.o.2.2.2.2.2.1];omega,fun ad u aJ=>by simp[rowC]at aJ⟩⟩,fun g aK=>?_⟩;cases aK;exact⟨aw,a6 _ (Nat.le_of_eq E.symm)⟩
 have aB:RdSt own W v q n p md a f s (j+1) (j+2) #[.int .i64 f,.int .i64 (N:Int)] 0 (k.alloc (.cells #[.int .i64 f,.int .i64 (N:Int)] 52)):=by
  have a7:Upd (fun _=>False) k (k.alloc (.cells #[.int .i64 f,.int .i64 (N:Int)] 52)):=(uur _ k).alloc _;exact⟨own,_,ax.new a7,A.keep a7 id,⟨zc _ _ Z.symm,a6 _ oM⟩,(show Bo own k (j+1) _ _ from⟨gl,a6 _ oM⟩).keep a7 id,oM,aA.keep a7 (fun _ _ h=>h)⟩
 have aC:=qqh (YV (g:=v) (N:=N) 102 #[] #[ptr s,ptr (j+1)] (RdSt own W v q n p md a f s (j+1) (j+2) #[.int .i64 f,.int .i64 (N:Int)]) H.o.2.2.2.1 (w:=k) (enters_of func102 kR rfl)
  (fun M aL ae=>by
   obtain⟨own',lv,-,-,aM,-⟩:=ae;rw[Z];exact aM.cell 0)
  (fun M aN aL ae=>zdB ae (H.o.2.2.2.2.2.2.1 M aN) jP) aB)
 have aD:=Y2 J E;have aW:=qqh Z;clear au D Y av gl Z aw ax A Q a6 aA aB an am ap ao J E;go_upto_region 7 with fail
 rw[<-aD.o.2,<-aD.o.1];go_wp2_with (first
  |(refine qYz rfl _ _ rfl _ _ rfl _ _ ay aq rfl ar ?_)
  |fail)
 refine aC.o.mono ?_;rintro e aX ⟨rfl,aO,lv,aE,-,-,aF,-,aG⟩;have aP:=aF.cell 0;simp at aP;have af:=Y2 aE aG;clear aE aF aG aC ay az;go_wp2
 go_ret2
 exact⟨_,aO,rfl,af.o.1.vo,af.o.1.d,af.o.2⟩
end
def Rz(own:Nat->Nat)(W:World)(v:Value)(F:List Bk):Prop:=Sl W 60 64 v F.length (rowC F)/\∀g,v.ownBlock=some g->own g=0
section
variable{own0 own own':Nat->Nat}{w0 W W':World}{v:Nat}{q:VoP}{n:CaN}{p:CaP}{a a':CaS}{md:Int}
theorem Rz.did(h:Rz own W u F)(d:Did own own' W W'):Rz own' W' u F:=
 ⟨h.1.keep d.upd (fun g j k=>k.1 (h.2 g j)),fun g j=>(d.old g (h.1.lt j)).trans (h.2 g j)⟩
theorem Rz.new(h:Rz own W u F)(hu:Upd (fun _=>False) W W'):Rz own W' u F:=⟨h.1.keep hu (fun _ _ h=>h),h.2⟩
structure WrSt(own0:Nat->Nat)(w0:World)(v:Nat)(q:VoP)(n:CaN)(p:CaP)(md:Int)(a:CaS)(f:Int)(xs:List Bk)(I:Nat->CaS->Prop)(lv:Value)(vb fb lb sb:Nat)(sv:Array Value)(k:Nat)(own:Nat->Nat)(W:World):Prop where
 vo:VoFr own0 w0 v q n p md own W (CaS.wrN n md f xs a k)
 bv:Bo own W vb #[ptr v] 49
 bf:Bo own W fb #[.int .i64 f] 3
 bl:Bo own W lb #[lv] 32
 bs:Bo own W sb sv 52
 ro:Rz own W lv xs
 iv:I k (CaS.wrN n md f xs a k)
def zbl(n:CaN)(md f:Int)(xs:List Bk)(I:Nat->CaS->Prop):Prop:=∀k b,k<xs.length->I k b->b.Jg n->1<=b.next->
 (∃M,b.Tie n none/\b.Fit M/\M+3*n.pa+n.jo+6<=50000)/\(b.kG n (f+(k:Int)) (xs.getD k zB) md).2=0/\I (k+1) (b.kG n (f+(k:Int)) (xs.getD k zB) md).1
theorem zdC{G fb lb sb k:Nat}{Z:Array Value}{xs:List Bk}{I:Nat->CaS->Prop}(h:WrSt own0 w0 v q n p md a f xs I lv G fb lb sb Z k own W)(a6:All64 xs)(H:k<xs.length)(az:0<=f/\f+xs.length<=4096)(a7:zbl n md f xs I):
  Calls prog 106 #[.int .i64 (f+(k:Int)),ptr G,ptr lb,ptr fb] W fun e W'=>e=.returned (.int .i64 0)/\∃own',WrSt own0 w0 v q n p md a f xs I lv G fb lb sb Z (k+1) own' W':=by
 obtain⟨g,o,ap,aq,J⟩:=TL h.ro.1.rd a6 H;have O:=a6 _ (qyv H);have Q:xs.getD k zB=xs[k]:=by rw[qyg,qyk H];rfl
 have s:=(uur (fun _=>False) W).drew;obtain⟨⟨aA,a8,aa,ab⟩,ad,M⟩:=a7 k _ H h.iv h.vo.vo.ca.jg h.vo.vo.ca.nx1;have U:=Ei (h.vo.new s).vo.ca aa ab a8 (f+(k:Int)) xs[k] O md;have ae:=h.bv.cell 0;have c1:=za h.vo.vo.g 0;have c2:=za h.vo.vo.g 8;have af:=h.bl.cell 0;have ag:=h.bf.cell 0;simp[Zb]at ae c1 c2 af ag;rw[<-Q,ad]at U;have ah:=qqh U;have ai:=Y3 M h s;have q1:f+(k:Int)-f=(k:Int):=oM;have q2:IntKind.i64.wrap (k:Int)=(k:Int):=qxu _ oM;have aB:(0:Int)<=(k:Int):=oM;have aC:(k:Int)<(xs.length:Int):=oM;have V:=zu xs[k] O;have ar:=underlying60;subst aq;rw[<-Q]at J V;obtain⟨x,hx⟩:=qqe (xs.getD k zB);rw[<-hx]at J V ah;have au:=qqh hx;clear h a7 M U a8 aa ab s ad O Q hx;go_enter func106,ntmps106
 go_upto_region 1 with fail
 refine qZc (S:=fun W=>W.cell? ⟨G,0,none⟩=some (ptr v)/\W.cell? ⟨v,0,none⟩=some (ptr q.c)/\W.cell? ⟨v,8,none⟩=some (.int .i64 md)/\W.cell? ⟨lb,0,none⟩=some (.slice (some ⟨g,o,none⟩) xs.length ap)/\W.cell? ⟨fb,0,none⟩=some (.int .i64 f)/\W.rangeAt g (o+k*64) (bkC x)) kR (⟨by rw[qYi];exact ae,by rw[qYi];exact c1,by rw[qYi];exact c2,by rw[qYi];exact af,by rw[qYi];exact ag,by rw[qYk];exact J⟩) (fun X=>?_);refine Wl.i [0,1,2,3,4,5,6,7,8,9] ?_;iterate 10 refine Wl.t X ?_
 refine Wl.o ?_;refine Wl.l 10 (fun w h=>h.2.2.2.2.2) ar V X ?_;refine Wl.i [11,12,13,14] ?_;iterate 4 refine Wl.t X ?_
 refine Wl.o ?_;refine Wl.r 15 (fun K E=>?_);go_simp
 refine ah.o.mono ?_;rintro e aj ⟨rfl,Y,A,D⟩;have av:=qqh (⟨Y,A,D⟩:∃own',CaAt own' aj q.c n p _/\Did own own' W.drew aj);obtain⟨-,h,s⟩:=ai.o;have j:=(h.vo.vo.ca.ko s).trans D;have s0:=(h.bv.did j).cell 0;have ak:=za (h.vo.vo.did A j).g 0;have am:=za (h.vo.vo.did A j).g 8;have an:=(h.bl.did j).cell 0;have ao:=(h.bf.did j).cell 0;simp[Zb]at s0 ak am an ao;have aw:=j.upd.range J (fun e=>e.1 (h.ro.2 g rfl));clear A D h s j;refine E.o _ _ (⟨s0,ak,am,an,ao,aw⟩) (fun ax=>?_);clear E K;refine Wl.r 16 (fun K E=>?_);go_simp
 refine E.o _ _ (ax) (fun aD=>?_);clear E K;refine Wl.d ?_;go_wp2
 go_ret
 obtain⟨M,h,s⟩:=ai.o;obtain⟨Y,A,D⟩:=av.o;rw[au.o]at A;have ay:=h.vo.vo.ca.ko s;have j:=ay.trans D;exact⟨rfl,Y,(h.vo.new s).did A D,h.bv.did j,h.bf.did j,h.bl.did j,h.bs.did j,h.ro.did j,M⟩
theorem WU(h:VolAt own W v q n p a md false)(h1:∀x∈a.W,1<=x.1)(A:a.dO.length+a.W.length<=65536):
  Calls prog 66 #[ptr v] W (xw own W v q n p (a.j9 n).1 md false (.int .i64 (a.j9 n).2)):=by
 have c:=za h.g 0;simp[Zb]at c;have D:=qqh (yp h);have E:=qqh (wU h.ca h1 A);have G:=qqh h;clear h;go_enter func66,ntmps66
 go_wp2_with fail
 refine D.o.mono ?_;rintro e J ⟨rfl,rfl⟩;go_wp2_with fail
 refine E.o.mono ?_;rintro e M ⟨rfl,H,k,j⟩;have s:=Y2 (G.o.did k j) j;clear k j c;generalize (CaS.j9 n a).2=cd at*;go_wp2
 go_ret
 exact⟨rfl,H,s.o.1,s.o.2⟩
def CaS.wrF(n:CaN)(md f:Int)(xs:List Bk)(a:CaS)(firm:Bool):CaS:=if firm then((CaS.wrN n md f xs a xs.length).j9 n).1 else CaS.wrN n md f xs a xs.length
theorem WV{xs:List Bk}{I:Nat->CaS->Prop}{a7:Bool}(h:VolAt own W v q n p a md false)(a8:inS n.bl f xs.length)(X:All64 xs)(H:Rz own W lv xs)(Y:zbl n md f xs I)(Z:I 0 a)
  (s:∀b,I xs.length b->b.Jg n->1<=b.next->(∃ab,b.Fit ab/\ab<=50000)/\(a7=true->(b.j9 n).2=0)):
  Calls prog 64 #[ptr v,.int .i64 f,.bool a7,lv] W fun e W'=>xw own W v q n p (CaS.wrF n md f xs a a7) md false (.int .i64 0) e W'/\I xs.length (CaS.wrN n md f xs a xs.length)/\(CaS.wrN n md f xs a xs.length).Jg n/\1<=(CaS.wrN n md f xs a xs.length).next:=by
 have aR:=h.ca.ok.b2;have aS:1<=xs.length:=by obtain⟨-,b6,-,-⟩:=a8;omega
 have J:0<=f/\f+xs.length<=4096:=by obtain⟨b7,-,-,b8⟩:=a8;omega
 obtain⟨j,M⟩:=qqe (W.heap.size);obtain⟨w1,A⟩:=qqe (((W.alloc (.cells #[ptr v] 49)).alloc (.cells #[.int .i64 f] 3)).alloc (.cells #[lv] 32));have ad:Upd (fun _=>False) W w1:=by rw[A];exact(((uur _ W).alloc _).alloc _).alloc _
 have ar:w1.heap.size=j+3:=by rw[A,M];simp
 have ae:w1.heap[j]?=some (.cells #[ptr v] 49 (0,0)):=by rw[A,M];exact(((uur (fun _=>False) _).alloc _).alloc _).j4 (zc W _ rfl)
 have af:w1.heap[j+1]?=some (.cells #[.int .i64 f] 3 (0,0)):=by rw[A,M];exact((uur (fun _=>False) _).alloc _).j4 (zc _ _ oe)
 have ag:w1.heap[j+2]?=some (.cells #[lv] 32 (0,0)):=by rw[A,M];exact zc _ _ oe
 obtain⟨O,aa⟩:=qqe (w1.alloc (.cells #[.int .i64 f,.int .i64 (xs.length:Int)] 52));have D:=qqu aa;have ah:O.heap[j+3]?=some (.cells #[.int .i64 f,.int .i64 (xs.length:Int)] 52 (0,0)):=by rw[aa];exact zc _ _ ar.symm
 have ai:VoFr own W v q n p md own w1 a:=(VoFr.start h).new ad;have Q:=ai.new D;have aT:=qqh (yp ai.vo);have au:=qqh (TK Q.vo a8);have av:=zg ah;have aw:w1.cell? ⟨j,0,none⟩=some (ptr v):=za ae 0;have aU:w1.cell? ⟨j+1,0,none⟩=some (.int .i64 f):=za af 0;have aV:w1.cell? ⟨j+2,0,none⟩=some lv:=za ag 0;have aW:O.cell? ⟨j,0,none⟩=some (ptr v):=D.j3 aw id;have aX:=Y5 (show Bo own O j #[ptr v] 49 from⟨D.j4 ae,h.ca.far _ oM⟩) (show Bo own O (j+1) #[.int .i64 f] 3 from⟨D.j4 af,h.ca.far _ oM⟩) (show Bo own O (j+2) #[lv] 32 from⟨D.j4 ag,h.ca.far _ oM⟩) (show Bo own O (j+3) #[.int .i64 f,.int .i64 (xs.length:Int)] 52 from⟨ah,h.ca.far _ oM⟩) Q;have ax:=Y6 Y Z s X J ((H.new ad).new D);have a6:=Y3 A aa M;have ay:=underlying52;have az:=yz;have b9:=qqf;obtain⟨aA,aB,rfl⟩:=H.1.rd.j6;have ba:(xs.length:Int)<=4096:=oM;have q1:¬(xs.length:Int)=0:=oM;have q2:((xs.length:Int)==0)=false:=by simpa using q1
 clear h a8 aR J A ad aa D ae af ag ah ai Q Y Z s X H M ar aS;go_enter func64,ntmps64
 go_upto_region 1 with fail
 rw[<-a6.o.1,<-a6.o.2.2];go_wp2_with fail
 refine aT.o.mono ?_;rintro e w' ⟨rfl,rfl⟩;go_upto_region 7 with fail
 rw[show w'.heap.size=j+3 from by rw[a6.o.1,a6.o.2.2];simp,<-a6.o.2.1];rw[show j+1+1=j+2 from rfl];clear aw aU aV;go_wp2_with (first
  |(refine qYz rfl _ _ rfl _ _ rfl _ _ av ay rfl az ?_)
  |fail)
 refine au.o.mono ?_;rintro e E ⟨rfl,aC⟩;have G:=uuo (S:=fun _=>False) aC;obtain⟨aD,aE,bl,aF,Q⟩:=aX.o;have aj:=aD.keep G id;have aG:=aE.keep G id;have aH:=bl.keep G id;have aI:=zg (aF.keep G id).1;have aJ:=aj.cell 0;simp at aJ;have ak:=Q.new G;have U:Upd (fun _=>False) E (E.alloc (.cells #[.int .i64 f,.int .i64 (xs.length:Int)] 52)):=(uur _ E).alloc _;obtain⟨Y,Z,s,X,J,H⟩:=ax.o;have aK:WrSt own W v q n p md a f xs I (.slice aA xs.length aB) j (j+1) (j+2) E.heap.size #[.int .i64 f,.int .i64 (xs.length:Int)] 0 own (E.alloc (.cells #[.int .i64 f,.int .i64 (xs.length:Int)] 52)):=
  ⟨ak.new U,aj.keep U id,aG.keep U id,aH.keep U id,⟨zc _ _ rfl,ak.vo.ca.far _ (qXp _)⟩,(H.new G).new U,Z⟩
 have aL:=qqh (YV (g:=v) (N:=xs.length) 106 #[] #[ptr j,ptr (j+2),ptr (j+1)] (fun am an=>∃own',WrSt own W v q n p md a f xs I (.slice aA xs.length aB) j (j+1) (j+2) E.heap.size #[.int .i64 f,.int .i64 (xs.length:Int)] am own' an) J (w:=E) (enters_of func106 kR rfl)
  (fun am an ⟨own',ao⟩=>ao.bs.cell 0)
  (fun am aY an ⟨own',ao⟩=>zdC ao X aY J Y) ⟨own,aK⟩)
 clear aC G aD aE bl aF Q aj aG aH ak U Y Z s X J H aK av aW au;go_upto_region 11 with(first
  |(refine qYz rfl _ _ rfl _ _ rfl _ _ aI ay rfl az ?_)
  |(go_at_call 101;refine Stop.i ?_)
  |fail)
 unfold Stop;refine aL.o.mono ?_;rintro e bb ⟨rfl,aZ,k⟩;obtain⟨-,-,s,-⟩:=ax.o;have m1:=k.bv.cell 0;simp at m1;obtain⟨⟨ab,ap,b0⟩,aM⟩:=s _ k.iv k.vo.vo.ca.jg k.vo.vo.ca.nx1;have b1:=ap.dO;have b3:=k.vo.vo.ca.jg.len;have b4:=k.vo.vo.ca.ok.j2;have aN:=qqh (WU k.vo.vo ap.w1 oM);have V:=Y6 k.vo.vo k.vo.d aM k.iv k.vo.vo.ca.jg k.vo.vo.ca.nx1;clear k s ap b0 aM b1 b3 b4 aL aI aJ;cases a7 with
 |false=>
  go_wp2
  go_ret
  exact⟨⟨rfl,aZ,V.o.1,V.o.2.1⟩,V.o.2.2.2⟩
 |true=>
  go_wp2_with fail
  refine aN.o.mono ?_;rintro e bc ⟨rfl,b5,aO,aP⟩;have aq:=V.o.2.2.1 trivial;have aQ:=Y3 aO (V.o.2.1.trans aP) aq;rw[aq];clear aO aP aq aN m1;go_wp2
  go_ret
  exact⟨⟨rfl,b5,aQ.o.1,aQ.o.2.1⟩,V.o.2.2.2⟩
end
theorem zX:(prog.info? 34).map (·.size)=some 3:=kR
section
variable{own0 own own':Nat->Nat}{w0 w w' W W':World}{r v:Nat}{q:VoP}{n:CaN}{p:CaP}{a a':CaS}{md md':Int}{cl cl':Bool}
theorem VolAt.box(h:VolAt own W v q n p a md cl)(k:Bo own W b cs T)(h1:T≠112)(h2:T≠173)(s:b≠0/\b≠1)(hu:Upd (fun A=>A=b) W W'):VolAt own W' v q n p a md cl:=by
 have E:v≠b:=fun e=>by
  have j:=h.g;rw[e,k.1]at j;cases j;exact h1 rfl
 have G:q.lb≠b:=fun e=>by
  have j:=h.lk.1;rw[e,k.1]at j;cases j;exact h2 rfl
 have H:q.mb≠b:=fun e=>by
  obtain⟨M,⟨O,P,D,-⟩,-⟩:=h.lk.2;rw[e,k.1]at D;cases D
 exact⟨h.ca.ky hu (fun A J=>by rw[J];exact⟨k.2,s.1,s.2⟩),(hu.block v (zd h.g) E).trans h.g,h.lk.keep hu G H,h.o1,h.o2,h.o3⟩
theorem RunAt.box(h:RunAt own W r v q n p a md cl)(j:Bo own W b cs T)(h1:T≠112)(h2:T≠173)(s:T≠68)(A:b≠0/\b≠1)(hu:Upd (fun D=>D=b) W W'):RunAt own W' r v q n p a md cl:=
 ⟨h.vo.box j h1 h2 A hu,(hu.block r (zd h.g) (fun e=>by
  have k:=h.g;rw[e,j.1]at k;cases k;exact s rfl)).trans h.g,h.o⟩
structure DidR(r v:Nat)(own own':Nat->Nat)(w w':World):Prop where
 upd:Upd (fun j=>own j≠0/\own j<16\/j=r\/j=v) w w'
 old:∀j,j<w.heap.size->own' j=own j
 new:∀j,w.heap.size<=j->own' j<16
 far:∀j,w'.heap.size<=j->own' j=0
theorem Did.toR(d:Did own own' w w'):DidR r v own own' w w':=⟨d.upd.mono (fun _ _ h=> .inl h),d.old,d.new,d.far⟩
theorem DidR.trans{v2:Nat}{s:Nat->Nat}{A:World}(d:DidR r v own own' w w')(e:DidR r v2 own' s w' A)(hv:v2=v\/w.heap.size<=v2):DidR r v own s w A where
 upd:=d.upd.new e.upd (fun j k h=>by
  rcases h with h|h|h
  .exact .inl (by rw[<-d.old j k];exact h)
  .exact .inr (.inl h)
  .exact .inr (.inr oM))
 old:=fun j k=>(e.old j (d.upd.lt k)).trans (d.old j k)
 new:=fun j k=>by
  by_cases h:j<w'.heap.size
  .rw [e.old j h];exact d.new j k
  .exact e.new j oM
 far:=e.far
theorem DidR.mine{k:World}(d:DidR r v own own' w w')(hu:Upd (fun j=>j=b) w' k)(A:w.heap.size<=b):DidR r v own own' w k:=
 ⟨d.upd.new hu (fun i D e=>oM),d.old,d.new,fun j s=>d.far j (qXr hu.size s)⟩
theorem DidR.at(hu:Upd (fun h=>h=r\/h=v) w w')(k:∀h,w.heap.size<=h->own h=0):DidR r v own own w w':=
 ⟨hu.mono (fun _ _ s=> .inr s),fun _ _=>rfl,fun h j=>by rw[k h j];decide,fun h j=>k h (qXr hu.size j)⟩
theorem Bo.didR(h:Bo own W b cs t)(d:DidR r v own own' W W')(j:b≠r)(hv:b≠v):Bo own' W' b cs t:=
 ⟨(d.upd.block b (zd h.1) (fun e=>e.elim (fun e=>e.1 h.2) (fun e=>e.elim j hv))).trans h.1,(d.old b (zd h.1)).trans h.2⟩
theorem Bo.neV(h:Bo own W b cs t)(hv:VolAt own W v q n p a md cl)(j:t≠112:=by decide):b≠v:=fun e=>by
 have h1:=h.1;rw[e,hv.g]at h1;cases h1;exact j rfl
theorem DidR.run{u:Nat}(d:DidR v v own own' w w'):DidR u v own own' w w':=⟨d.upd.mono (fun _ _ h=>h.imp id (fun h=> .inr (h.elim id id))),d.old,d.new,d.far⟩
def VoR(own:Nat->Nat)(w:World)(v:Nat)(q:VoP)(n:CaN)(p:CaP)(a:CaS)(md:Int)(cl:Bool)(u:Value)(e:Ending)(w':World):Prop:=
 e=.returned u/\∃own',VolAt own' w' v q n p a md cl/\DidR v v own own' w w'
theorem xw.toR{e:Ending}(h:xw own w v q n p a md cl u e w'):VoR own w v q n p a md cl u e w':=⟨h.1,h.2.choose,h.2.choose_spec.1,h.2.choose_spec.2.toR⟩
theorem RunAt.vol(j:RunAt own w r v q n p a md cl)(hv:VolAt own' w' v q n p a' md' cl')(d:DidR v v own own' w w'):RunAt own' w' r v q n p a' md' cl':=by
 have k:Bo own w r _ _:=⟨j.g,j.o⟩
 have h:=k.neV j.vo;exact⟨hv,(k.didR d h h).1,(k.didR d h h).2⟩
def zZ(Rq:Nat->VoP->Prop)(own:Nat->Nat)(w:World)(r v:Nat)(n:CaN)(cd m:Int)(L:List Bk)(a:CaS)(md:Int)(cl:Bool)(e:Ending)(w':World):Prop:=
 ∃own' v' q p u,e=.returned (.agg #[.int .i64 cd,.int .i64 m,u])/\RunAt own' w' r v' q n p a md cl/\DidR r v own own' w w'/\Rq v' q/\Ro w own' w' u L
theorem Ro.nil(w:World)(own:Nat->Nat)(W:World):Ro w own W (.slice none 0 0) []:=⟨Sl.nil _ _ _,fun g h=>by cases h⟩
theorem Ro.toRz(h:Ro w own W u F):Rz own W u F:=⟨h.1,fun g j=>(h.2 g j).2⟩
theorem Ro.low(h:Ro w' own W u F)(k:w.heap.size<=w'.heap.size):Ro w own W u F:=⟨h.1,fun g j=>⟨qXr k (h.2 g j).1,(h.2 g j).2⟩⟩
theorem Ro.one(h:Ro w own W u F):u.oneCell'=true:=by
 obtain⟨j,c,rfl⟩:=h.1.rd.j6;rfl
theorem zZ.fin{Rq:Nat->VoP->Prop}{v0 j:Nat}(h:RunAt own' W r v q n p a md cl)(A:Bo own' W j cs 34)(E:w.heap.size<=j)(J:0<j/\1<j)(d:DidR r v0 own own' w W)(G:Rq v q)(k:Ro w own' W u L):
  zZ Rq own w r v0 n cd m L a md cl (.returned (.agg #[.int .i64 cd,.int .i64 m,u])) (W.setCells j 0 [.int .i64 cd,.int .i64 m,u]):=by
 have s:=zn W j 0 [.int .i64 cd,.int .i64 m,u];refine⟨own',v,q,p,u,rfl,h.box A de de de ⟨oM,oM⟩ s,d.mine s E,G,k.1.keep s (fun g D e=>?_),k.2⟩;obtain⟨-,⟨rfl,-⟩|⟨H,M,O,Q,rfl,h2,-⟩⟩:=k.1
 .cases D
 .cases D;replace e:H=j:=e;rw[e,A.1]at h2;cases h2
theorem xZ(hu:u.oneCell'=true):∀x∈[Value.int .i64 cd,.int .i64 m,u],x.oneCell'=true:=by
 intro x hx;simp only[qzn,qzz,qYu]at hx;rcases hx with rfl|rfl|rfl
 .rfl
 .rfl
 .exact hu
def zdD:List Value:=[.func (.func 32) #[] #[],.func (.func 33) #[] #[],.func (.func 33) #[] #[],.func (.func 34) #[] #[],.func (.func 35) #[] #[],
 .func (.func 36) #[] #[],.func (.func 37) #[] #[],.func (.func 38) #[] #[],.func (.func 39) #[] #[],.func (.func 40) #[] #[],
 .func (.func 41) #[] #[],.func (.func 42) #[] #[],.func (.func 43) #[] #[]]
def sV:Array Value:=zdD.toArray
theorem zbn:(prog.info? 70).map (·.size)=some zdD.length:=kR
theorem EL(w:World):Calls prog 25 #[] w fun e w'=>e=.returned (.agg sV)/\Below w.heap.size w w':=by
 go_enter func25,ntmps25
 go_wp2
 exact qYq (zq rfl _ _ w.heap.size 0 zdD _ rfl (zg (zc w _ rfl)) underlying70 rfl zbn) rfl ⟨rfl,(qxl _ w).alloc (qXp _) _⟩
theorem vK{W:World}{x y z:Value}(h:W.heap[b]?=some (.cells #[x,y,z] T (0,0))):W.there b 0 3:=fun j hj=>by
 rw[qXy,za h,zf h];exact⟨by rw[qxe oC];rfl,rfl⟩
abbrev uJ(d fr m fi:Int)(kp:Value):Value:=.agg #[.int .i64 d,.int .i64 fr,.int .i64 m,.int .i64 fi,kp]
theorem zdE(fd:Nat)(H:Value->World->Prop)(h:RunAt own w r v q n p a md cl)(aI:0<=d/\d<13)(j:d=1\/d=2->1<=m/\m<=64)(_:kp.oneCell'=true)
  (aJ:∀W:World,(Instr.index 70 (.agg sV) (.int .i64 d)).run prog W=.ok (.func (.func fd) #[] #[]) W) (aK:∀ad w,(callFunc fd ad).run prog w=.ok (.enter fd ad) w)
  (ae:∀W,Upd (fun _=>False) w W->w.heap.size+2<=W.heap.size->Calls prog fd #[ptr r,uJ d fr m fi kp] W fun e W'=>∃u,e=.returned (.agg #[.int .i64 cd,.int .i64 nn,u])/\u.oneCell'=true/\Upd (fun J=>J<w.heap.size\/W.heap.size<=J) W W'/\H u W')
  (af:∀W W' u,(∃cs,W.heap[w.heap.size+1]?=some (.cells cs 34 (0,0)))->Upd (fun J=>J=w.heap.size+1) W W'->H u W->H u W'):
  Calls prog 11 #[ptr r,uJ d fr m fi kp] w fun e w'=>∃u,e=.returned (.agg #[.int .i64 cd,.int .i64 nn,u])/\H u w':=by
 obtain⟨ob,M⟩:=qqe (w.heap.size);obtain⟨w1,A⟩:=qqe ((w.alloc (.cells #[.int .i64 d,.int .i64 fr,.int .i64 m,.int .i64 fi,kp] 30)).alloc (.cells #[.int .i64 0,.int .i64 0,.slice none 0 0] 34));have D:Upd (fun _=>False) w w1:=by rw[A];exact((uur _ w).alloc _).alloc _
 have O:w1.heap[ob]?=some (.cells [.int .i64 d,.int .i64 fr,.int .i64 m,.int .i64 fi,kp].toArray 30 (0,0)):=by rw[A,M];exact(qxk _ _ _ oe).trans (zc w _ rfl)
 have ag:w1.heap[ob+1]?=some (.cells #[.int .i64 0,.int .i64 0,.slice none 0 0] 34 (0,0)):=by rw[A,M];exact zc _ _ oe
 have h1:=h.new D;have a6:=za O 0;have c2:=za O 2;have aw:=za h1.g 5;simp at a6 c2 aw;have ah:=zg O;have q1:¬d<0:=oM;have q2:¬d>=13:=oM;have Q:=Y4 D ag ae af;have E:=Y2 A M;have ax:=underlying30;have ay:=vJ;have ai:=qqh j;clear h h1 D O ag ae af A M j;go_enter func11,ntmps11
 go_upto_region 3 with fail
 rw[<-E.o.1,<-E.o.2];have aL:=Y2 q1 q2;have az:((d==1)=true/\Hid (d=1))\/((d==1)=false/\(d==2)=true/\Hid (d=2))\/(d==1)=false/\(d==2)=false:=by
  by_cases U:d=1
  .exact .inl ⟨by simpa using U,qqh U⟩
  by_cases a7:d=2
  .exact .inr (.inl ⟨by simpa using U,by simpa using a7,qqh a7⟩)
  .exact .inr (.inr ⟨by simpa using U,by simpa using a7⟩)
 have s:Hid (w.heap.size=ob/\w1.heap.size=ob+2):=qqh ⟨E.o.2.symm,by rw[E.o.1,E.o.2];simp⟩;rcases az with⟨aj,a8⟩|⟨aj,aA,a8⟩|⟨aj,aA⟩
 all_goals (first
  |(have j:=ai.o (.inl a8.out);go_wp2_with fail;refine(TM m w1 j.1 j.2).mono ?_;rintro e w' ⟨rfl,rfl⟩;clear j;go_upto_region 9 with fail)
  |(have j:=ai.o (.inr a8.out);go_wp2_with fail;refine(TM m w1 j.1 j.2).mono ?_;rintro e w' ⟨rfl,rfl⟩;clear j;go_upto_region 9 with fail)
  |go_upto_region 9 with fail)
 all_goals
  refine qZc (S:=fun W=>W.rangeAt ob 0 [.int .i64 d,.int .i64 fr,.int .i64 m,.int .i64 fi,kp]/\W.cell? ⟨ob,0,none⟩=some (.int .i64 d)) kR (⟨by rw[qYk];exact ah,by rw[qYi];exact a6⟩) (fun ak=>?_);refine Wl.i [1,2,4] ?_;iterate 3 refine Wl.t ak ?_
  refine Wl.o ?_;refine Wl.l 5 (fun w h=>h.1) ax ay ak ?_;refine Wl.r 0 (fun K k=>?_);go_simp
  refine(EL _).mono ?_;rintro e V ⟨rfl,X⟩;have G:=(uur (fun _=>False) _).drew.trans (uuo (S:=fun _=>False) X);have am:=G.range ah id;have an:=G.j3 a6 id;have aB:=qqh (Q.o.2.2.1 V (Q.o.1.trans G) (by rw[s.out.1,<-s.out.2];exact X.size));have ao:=G.j4 Q.o.2.1;have aC:ob+2<=V.heap.size:=by rw[<-s.out.2];exact X.size
  clear X G;refine k.o _ _ (⟨am,an⟩) (fun aD=>?_);clear k K;refine Wl.i [3] (Wl.t aD (Wl.o ?_));refine Wl.r 6 (fun K k=>?_);go_simp
  refine aB.o.mono ?_;rintro e aE ⟨u,rfl,D,Y,ap⟩;have aa:¬(ob<w.heap.size\/V.heap.size<=ob):=by have:=s.out.1;omega
  have aq:¬(ob+1<w.heap.size\/V.heap.size<=ob+1):=by have:=s.out.1;omega
  have ar:=Y.range am aa;have au:=Y.j3 an aa;have ab:=(Y.block (ob+1) (zd ao) aq).trans ao;have Z:=zn aE (ob+1) 0 [.int .i64 cd,.int .i64 nn,u];have aF:=qqh (Q.o.2.2.2 _ _ u ⟨_,(by rw[s.out.1];exact ab)⟩ (by rw[s.out.1];exact Z) ap);have aG:=Z.range ar (fun e=>by replace e:ob=ob+1:=e;omega);have aH:=Z.j3 au (fun e=>by replace e:ob=ob+1:=e;omega);have av:=vK ab;clear Y ap ab Z aa aq aC;refine k.o _ _ (⟨ar,au⟩) (fun aM=>?_);clear k K;refine Wl.r 7 (fun K k=>?_);rw[if_pos oE];refine qZd _ _ _ rfl _ _ [.int .i64 cd,.int .i64 nn,u].toArray rfl rfl av zX (qYo (xZ D)) ?_;simp only[Act.put,qXe];refine k.o _ _ (⟨aG,aH⟩) (fun aN=>?_);clear k K;refine Wl.d ?_;go_wp2
  exact qYq (zq rfl _ _ (ob+1) 0 [.int .i64 cd,.int .i64 nn,u] _ rfl (qYl _ _ _ _ av) underlying34 rfl zX) rfl ⟨u,rfl,aF.o⟩
def Sq(v:Nat)(q:VoP)(v':Nat)(q':VoP):Prop:=v'=v/\q'=q
theorem zZ.to{Rq k:Nat->VoP->Prop}{e:Ending}(s:zZ Rq own w r v n cd m L a md cl e w')(A:∀h j,Rq h j->k h j):zZ k own w r v n cd m L a md cl e w':=by
 obtain⟨own',h,j,D,u,h1,h2,E,G,H⟩:=s;exact⟨own',h,j,D,u,h1,h2,E,A _ _ G,H⟩
theorem sW{Rq:Nat->VoP->Prop}{X:Prop}(fd:Nat)(_hRq:∀j k,Rq j k->j=v\/w.heap.size<=j)(h:RunAt own w r v q n p a md cl)(O:0<=d/\d<13)(Q:d=1\/d=2->1<=m/\m<=64)(U:kp.oneCell'=true)
  (V:∀W:World,(Instr.index 70 (.agg sV) (.int .i64 d)).run prog W=.ok (.func (.func fd) #[] #[]) W) (Y:∀G w,(callFunc fd G).run prog w=.ok (.enter fd G) w)
  (Z:∀W,Upd (fun _=>False) w W->Calls prog fd #[ptr r,uJ d fr m fi kp] W fun e W'=>zZ Rq own W r v n cd nn L a' md' cl' e W'/\X):
  Calls prog 11 #[ptr r,uJ d fr m fi kp] w fun e w'=>zZ Rq own w r v n cd nn L a' md' cl' e w'/\X:=by
 have aa:=zd h.g;have ab:=zd h.vo.g;have ad:=h.vo.ca.nib.lt;have ae:=h.vo.ca.tur.lt;refine(zdE (cd:=cd) (nn:=nn) fd (fun u W'=>∃own' j k s,RunAt own' W' r j k n s a' md' cl'/\DidR r v own own' w W'/\Rq j k/\Ro w own' W' u L/\own' (w.heap.size+1)=0/\X) h O Q U V Y (fun W A af=>?_) ?_).mono ?_
 .refine (Z W A).mono ?_;rintro e W' ⟨⟨own',j,k,s,u,rfl,D,d,E,z⟩,hx⟩;exact⟨u,rfl,z.one,d.upd.mono (fun a6 _ e=> .inl (by
   rcases e with e|e|e
   .exact Nat.lt_of_not_le fun a7=>e.1 (h.vo.ca.far a6 a7)
   .omega
   .omega)),own',j,k,s,D,(h.vo.ca.ko A).toR.trans d (.inl rfl),E,z.low A.size,(d.old _ oM).trans (h.vo.ca.far _ oM),hx⟩
 .rintro W W' u ⟨cs,H⟩ A ⟨own',j,k,s,D,d,E,z,J,hx⟩;refine⟨own',j,k,s,D.box ⟨H,J⟩ de de de ⟨oM,oM⟩ A,d.mine A (qXq _),E,⟨z.1.keep A (fun g M e=>?_),z.2⟩,J,hx⟩;obtain⟨-,⟨rfl,-⟩|⟨a8,ag,ah,ai,rfl,h2,-⟩⟩:=z.1
  .cases M
  .cases M;replace e:a8=w.heap.size+1:=e;rw[e,H]at h2;cases h2
 .rintro e w' ⟨u,rfl,own',j,k,s,D,d,E,z,-,hx⟩;exact⟨⟨own',j,k,s,u,rfl,D,d,E,z⟩,hx⟩
theorem yQ{Rq:Nat->VoP->Prop}(fd:Nat)(s:∀j A,Rq j A->j=v\/w.heap.size<=j)(h:RunAt own w r v q n p a md cl)(D:0<=d/\d<13)(E:d=1\/d=2->1<=m/\m<=64)(G:kp.oneCell'=true)
  (H:∀W:World,(Instr.index 70 (.agg sV) (.int .i64 d)).run prog W=.ok (.func (.func fd) #[] #[]) W) (J:∀k w,(callFunc fd k).run prog w=.ok (.enter fd k) w)
  (M:∀W,Upd (fun _=>False) w W->Calls prog fd #[ptr r,uJ d fr m fi kp] W (zZ Rq own W r v n cd nn L a' md' cl')):
  Calls prog 11 #[ptr r,uJ d fr m fi kp] w (zZ Rq own w r v n cd nn L a' md' cl'):=
 (sW (X:=True) fd s h D E G H J (fun W O=>(M W O).mono fun _ _ h=>⟨h,trivial⟩)).mono fun _ _ h=>h.1
end
section
variable{own own':Nat->Nat}{w w' W W':World}{r v:Nat}{q:VoP}{n:CaN}{p:CaP}{a a':CaS}{md md':Int}{cl cl':Bool}
theorem TQ(_:kp.oneCell'=true)(w:World):Calls prog 63 #[uJ d fr m fi kp] w fun e w'=>e=.returned (sI fr m)/\Below w.heap.size w w':=by
 go_enter func63,ntmps63
 go_wp2
 exact qYq (zq rfl _ _ (w.heap.size+1) 0 [.int .i64 fr,.int .i64 m] _ rfl (zg (zc _ _ oe)) underlying52 rfl yz) rfl ⟨rfl,((qxl _ w).alloc (qXp _) _).alloc oe _⟩
def TR(own:Nat->Nat)(w:World)(v:Nat)(q:VoP)(n:CaN)(p:CaP)(a:CaS)(md:Int)(cl:Bool)(cd:Int)(L:List Bk)(e:Ending)(w':World):Prop:=
 ∃u own',e=.returned (.tuple #[u,.int .i64 cd])/\VolAt own' w' v q n p a md cl/\Did own own' w w'/\Ro w own' w' u L
theorem WW(j:VolAt own W v q n p a md false)(k:inS n.bl f N)(s:∀h,h<N->(CaS.rdC n f a h).2=0):
  Calls prog 62 #[ptr v,sI f N] W (TR own W v q n p (CaS.rdN n f a N) md false 0 (CaS.rdL n f a N)):=
 (zbk j k s).mono fun _ _ ⟨u,own',A,D,d,E⟩=>⟨u,own',A,D,d,E⟩
theorem ri(h:RunAt own w r v q n p a md cl)(an:kp.oneCell'=true)(Z:∀own' W',VolAt own' W' v q n p a md cl->Calls prog 62 #[ptr v,sI fr m] W' (TR own' W' v q n p a' md' cl' cd L)):
  Calls prog 32 #[ptr r,uJ d fr m fi kp] w (zZ (Sq v q) own w r v n cd 0 L a' md' cl'):=by
 obtain⟨ob,H⟩:=qqe (w.heap.size);obtain⟨w1,D⟩:=qqe ((w.alloc (.cells #[.int .i64 d,.int .i64 fr,.int .i64 m,.int .i64 fi,kp] 30)).alloc (.cells #[.int .i64 0,.int .i64 0,.slice none 0 0] 34));have E:Upd (fun _=>False) w w1:=by rw[D];exact((uur _ w).alloc _).alloc _
 have a6:w1.heap[ob]?=some (.cells [.int .i64 d,.int .i64 fr,.int .i64 m,.int .i64 fi,kp].toArray 30 (0,0)):=by rw[D,H];exact(qxk _ _ _ oe).trans (zc w _ rfl)
 have a7:Bo own w1 (ob+1) #[.int .i64 0,.int .i64 0,.slice none 0 0] 34:=⟨by rw[D,H];exact zc _ _ oe,h.vo.ca.far _ oM⟩
 have h1:=h.new E;have a8:=h.vo.ca.ko E;have J:=za h1.g 5;simp at J;have M:=zg a6;have aa:0<ob+1/\1<ob+1:=by have:=h.vo.ca.nib.lt;have:=h.vo.ca.tur.lt;omega
 have ab:w.heap.size<=ob+1:=oM;have k:=Y6 h1 a8 a7 aa ab Z;have ad:=Y2 D H;have ao:=qqh (h.vo.ca.far ob oM);have ap:=underlying30;have aq:=vJ;clear h h1 a8 a7 E a6 D H aa ab Z;go_enter func32,ntmps32
 go_upto_region 1 with fail
 rw[<-ad.o.1,<-ad.o.2];refine qZc (S:=fun W=>W.cell? ⟨r,5,none⟩=some (ptr v)/\W.rangeAt ob 0 [.int .i64 d,.int .i64 fr,.int .i64 m,.int .i64 fi,kp]) kR (⟨by rw[qYi];exact J,by rw[qYk];exact M⟩) (fun O=>?_);refine Wl.i [0,1,2,3] ?_;iterate 4 refine Wl.t O ?_
 refine Wl.o ?_;refine Wl.l 4 (fun w h=>h.2) ap aq O ?_;refine Wl.r 5 (fun K j=>?_);go_simp
 refine(TQ an _).mono ?_;rintro e ay ⟨rfl,ae⟩;have G:=(uur (fun _=>False) w1).drew.trans (uuo (S:=fun _=>False) ae);have af:=G.j3 J id;have Q:=G.range M id;have ar:=qqh (k.o.2.2.2.2.2 _ _ (k.o.1.new G).vo);have U:=qqh G;clear ae G;refine j.o _ _ (⟨af,Q⟩) (fun au=>?_);clear j K;refine Wl.r 6 (fun K j=>?_);go_simp
 refine ar.o.mono ?_;rintro e az ⟨u,aA,rfl,ag,s,z4⟩;have A:=(k.o.1.new U.o).vol ag s.toR;have V:=za A.g 5;simp at V;have ah:=s.upd.range Q (fun e=>e.1 ao.o);have av:=Y4 A ((k.o.1.vo.ca.ko U.o).trans s) s z4;clear A ag s z4;refine j.o _ _ (⟨V,ah⟩) (fun X=>?_);clear j K;refine Wl.i [7,8,9] ?_;iterate 3 refine Wl.t X ?_
 refine Wl.o ?_;refine Wl.r 10 (fun K j=>?_);go_simp
 refine j.o _ _ (X) (fun ai=>?_);clear j K;refine Wl.r 11 (fun K j=>?_);go_simp
 refine j.o _ _ (ai) (fun aw=>?_);clear j K;refine Wl.d ?_;obtain⟨A,s,-,z4⟩:=av.o;have Y:=k.o.2.2.1.did s;have ax:=qqh (zZ.fin (Rq:=Sq v q) (v0:=v) (cd:=cd) (m:=0) A Y (w:=w) k.o.2.2.2.2.1 k.o.2.2.2.1 (k.o.2.1.trans s).toR ⟨rfl,rfl⟩ (z4.low (qXr k.o.2.1.upd.size U.o.size)));have aj:=vK Y.1;have E:=z4.one;obtain⟨ak,am,rfl⟩:=z4.1.rd.j6;clear A s z4 Y O au X ai aw V ah af Q J M;go_wp2_with (first
  |(refine qZb rfl _ _ _ rfl _ _ [.int .i64 cd,.int .i64 0,.slice ak _ am].toArray rfl rfl aj zX (qYo (xZ E)) ?_)
  |fail)
 exact qYq (zq rfl _ _ (ob+1) 0 [.int .i64 cd,.int .i64 0,.slice ak _ am] _ rfl (qYl _ _ _ _ aj) underlying34 rfl zX) rfl ax.o
end
def fillW(fr fi:Int)(N:Nat):List Bk:=(List.range N).map fun(i:Nat)=>xz (wrap64 (fr+(i:Int))) fi
theorem ui(fr fi:Int)(N:Nat):(fillW fr fi N).length=N:=by simp[fillW]
theorem Ur(fr fi:Int)(N:Nat):fillW fr fi (N+1)=fillW fr fi N++[xz (wrap64 (fr+(N:Int))) fi]:=by simp[fillW,List.range_succ]
def fillL(fr fi:Int)(N:Nat):List Bk:=(List.range N).map fun(i:Nat)=>xz (fr+(i:Int)) fi
theorem RI(fr fi:Int)(N:Nat):(fillL fr fi N).length=N:=by simp[fillL]
theorem EM(h1:0<=fr)(h2:fr+N<=4096):fillW fr fi N=fillL fr fi N:=by
 unfold fillW fillL;refine List.map_congr_left fun i j=>?_;rw[qzt]at j;rw[IntWalk.wrap64_in _ oM]
theorem WX(fr fi:Int)(N:Nat):All64 (fillL fr fi N):=by
 intro x hx;simp only[fillL,qzr]at hx;obtain⟨i,-,rfl⟩:=hx;exact xg _ _
section
variable{own own':Nat->Nat}{w w' W W':World}{r v:Nat}{q:VoP}{n:CaN}{p:CaP}{a a':CaS}{md md':Int}{cl cl':Bool}
theorem vL{X:Prop}(h:RunAt own w r v q n p a md cl)(_:kp.oneCell'=true)(an:N<=64)
  (ao:∀own' W' lv,VolAt own' W' v q n p a md cl->Rz own' W' lv (fillW fr fi N)->Calls prog 64 #[ptr v,.int .i64 fr,.bool (d==2),lv] W' fun e aW=>xw own' W' v q n p a' md' cl' (.int .i64 cd) e aW/\X):
  Calls prog 33 #[ptr r,uJ d fr N fi kp] w fun e w'=>zZ (Sq v q) own w r v n cd 0 [] a' md' cl' e w'/\X:=by
 obtain⟨ob,J⟩:=qqe (w.heap.size);obtain⟨w1,G⟩:=qqe ((w.alloc (.cells #[.int .i64 d,.int .i64 fr,.int .i64 (N:Int),.int .i64 fi,kp] 30)).alloc (.cells #[.int .i64 0,.int .i64 0,.slice none 0 0] 34));have af:Upd (fun _=>False) w w1:=by rw[G];exact((uur _ w).alloc _).alloc _
 have ap:w1.heap.size=ob+2:=by rw[G,J];simp
 have aq:w1.heap[ob]?=some (.cells #[.int .i64 d,.int .i64 fr,.int .i64 (N:Int),.int .i64 fi,kp] 30 (0,0)):=by rw[G,J];exact(qxk _ _ _ oe).trans (zc w _ rfl)
 have s:Bo own w1 ob #[.int .i64 d,.int .i64 fr,.int .i64 (N:Int),.int .i64 fi,kp] 30:=⟨aq,h.vo.ca.far _ oM⟩
 have ar:Bo own w1 (ob+1) #[.int .i64 0,.int .i64 0,.slice none 0 0] 34:=⟨by rw[G,J];exact zc _ _ oe,h.vo.ca.far _ oM⟩
 have h1:=h.new af;have au:=h.vo.ca.ko af;have ag:w1.cell? ⟨ob,2,none⟩=some (.int .i64 (N:Int)):=s.cell 2;have av:0<ob+1/\1<ob+1:=by have:=h.vo.ca.nib.lt;have:=h.vo.ca.tur.lt;omega
 have aw:w.heap.size<=ob+1:=oM;obtain⟨ax,ay,aX⟩:=Uc N oM;obtain⟨az,z,aA,aB,aC,aD,aE⟩:=yt;have A:=Y5 aA aB aC aD aE;have k:=Y9 h1 au s ar av aw an ay ap;have aY:=qqh ao;have aF:=Y2 G J;clear h h1 au s ar af aq G J av aw ao aA aB aC aD aE an ay ap;go_enter func33,ntmps33
 go_upto_region 1 with fail
 rw[<-aF.o.1,<-aF.o.2];go_upto_region 2 with fail
 clear aX;obtain⟨aG,O⟩:=qqe (w1.alloc (.cells ax 60));rw[<-O];have ah:Below w1.heap.size w1 aG:=by rw[O];exact(qxl _ w1).alloc (qXp _) _
 have aH:Sl aG 60 64 (.slice (some ⟨w1.heap.size,0,none⟩) 0 N) 0 (rowC (fillW fr fi 0)):=
  ⟨rfl,.inr ⟨w1.heap.size,0,N,ax,rfl,by rw[O];exact zc w1 _ rfl,qXz _,by have:=k.o.2.2.2.2.2.2.1;unfold maxLen;omega,by rw[k.o.2.2.2.2.2.2.2.1];omega,fun bg u aZ=>by simp[rowC,fillW]at aZ⟩⟩
 have aI:=Y2 ah aH;have ag:=(uuo (S:=fun _=>False) ah).j3 ag id;clear ah aH O;go_wp2_with fail
 clear ag;go_loopg[5,12] N (fun gk u i wr=>∃j:Nat,j+gk=N/\i=.int .i64 (j:Int)/\Sl wr 60 64 u j (rowC (fillW fr fi j))/\From w1.heap.size u/\Below w1.heap.size w1 wr)
 case atStart=>exact⟨0,oM,rfl,aI.o.2,fun g ai=>by cases ai;exact qXp _,aI.o.1⟩
 case round=>
  obtain⟨j,bh,rfl,hsl,Q,U⟩:=hrel;have H:=uuo (S:=fun _=>False) U;have s:=k.o.2.2.1.keep H id;have aJ:wr.cell? ⟨ob,1,none⟩=some (.int .i64 fr):=s.cell 1;by_cases hlt:j<N
  .have b0:wr.cell? ⟨ob,3,none⟩=some (.int .i64 fi):=s.cell 3;have b1:(j:Int)<(N:Int):=oM;have bi:=k.o.2.2.2.2.2.2.1;have V:=Y3 hsl Q U;obtain⟨b2,b3,rfl⟩:=hsl.rd.j6;clear hsl Q U H s;go_wp2_with fail
   refine(EF _ _ _).mono ?_;rintro e bj ⟨rfl,aK⟩;obtain⟨y,hy⟩:=qqe (xz (wrap64 (fr+(j:Int))) fi);have aL:y.length=64:=by rw[hy];exact xg _ _
   have aM:(bkC y).length=64:=by rw[zm,aL]
   have aj:=uuo (S:=fun _=>False) aK;have b4:=qqh (V.o.1.keep aj (fun _ _ h=>h));have aN:=qqh (zj V.o.2.2 aj (qXp _) (fun _ h=>h.elim));have Y:=Y3 hy aM (zx y);rw[<-hy];clear aK aj hy aL aM aJ b0;go_wp2_with (first
    |(refine yB rfl 32 60 _ rfl 64 de underlying32 ⟨az,z,A.o.1,A.o.2.1,A.o.2.2.1,A.o.2.2.2.1⟩ de (bkC y) rfl Y.o.2.1 ?_)
    |(at_builtin;refine zK rfl _ _ _ rfl az z 64 underlying32 A.o.1 A.o.2.1 A.o.2.2.2.1 A.o.2.2.2.2 A.o.2.2.1 de rfl b4.o (bkC y) oE Y.o.2.1 Y.o.2.2 oj oM ?_;intro bn bp Z a6 a7)
    |fail)
   have b5:=Y3 Z a6 a7;clear Z a6 a7;go_roundg (gk-1)
   case measure=>omega
   case rel=>
    obtain⟨Z,a6,a7⟩:=b5.o;refine⟨j+1,oM,by go_num,?_,a7.ge aN.o.size V.o.2.1,zj aN.o a6 (qXp _) V.o.2.1.own⟩;rw[Ur,ww,<-Y.o.1];exact Z
  .obtain rfl:j=N:=oM;have b1:¬((j:Int)<(j:Int)):=oM;have h2:=k.o.1.new H;have E:=(uur (fun _=>False) wr).drew;have aO:=za h2.g 5;have b6:wr.cell? ⟨ob,0,none⟩=some (.int .i64 d):=s.cell 0;simp at aO;have aP:Rz own wr u5 (fillW fr fi j):=⟨by rw[ui];exact hsl,fun g ai=>k.o.1.vo.ca.far g (Q g ai)⟩
   have b7:=qqh (aY.o _ _ _ (h2.new E).vo (aP.new E));have a8:=Y4 (h2.new E) (k.o.1.vo.ca.ko (H.trans E)) (s.keep E id) ((k.o.2.2.2.1.keep H id).keep E id);obtain⟨b2,b3,rfl⟩:=hsl.rd.j6;clear hsl Q U H s h2 E aP;go_upto_region 7 with fail
   refine qZc (S:=fun W=>W.cell? ⟨r,5,none⟩=some (ptr v)/\W.cell? ⟨ob,1,none⟩=some (.int .i64 fr)/\W.cell? ⟨ob,0,none⟩=some (.int .i64 d)) kR (⟨by rw[qYi];exact aO,by rw[qYi];exact aJ,by rw[qYi];exact b6⟩) (fun b8=>?_);refine Wl.i [0,1,2,3,4,5,6,7,8,9] ?_;iterate 10 refine Wl.t b8 ?_
   refine Wl.o ?_;refine Wl.r 10 (fun K D=>?_);go_simp
   refine b7.o.mono ?_;rintro e aa ⟨⟨rfl,b9,aQ,M⟩,aR⟩;have ab:=a8.o.1.vol aQ M.toR;have ak:=za ab.g 5;have am:=a8.o.2.2.1.did M;have aS:aa.cell? ⟨ob,1,none⟩=some (.int .i64 fr):=am.cell 1;have aT:aa.cell? ⟨ob,0,none⟩=some (.int .i64 d):=am.cell 0;simp at ak;have ad:=a8.o.2.2.2.did M;have aU:=vK ad.1;have ba:=qqh (zZ.fin (Rq:=Sq v q) (v0:=v) (cd:=cd) (m:=0) ab ad (w:=w) k.o.2.2.2.2.2.1 k.o.2.2.2.2.1 (k.o.2.1.trans (a8.o.2.1.trans M)).toR ⟨rfl,rfl⟩ (Ro.nil _ b9 aa));have ae:=zn aa (ob+1) 0 [.int .i64 cd,.int .i64 0,.slice none 0 0];have bb:=ae.j3 ak (fun e=>by replace e:r=ob+1:=e;have aV:=ab.g;rw[e,ad.1]at aV;cases aV);have bc:=ae.j3 aS (fun e=>by replace e:ob=ob+1:=e;omega);have bd:=ae.j3 aT (fun e=>by replace e:ob=ob+1:=e;omega);have be:=qqh aR;clear ab aQ M am ad ae aR;refine D.o _ _ (⟨ak,aS,aT⟩) (fun bf=>?_);clear D K;refine Wl.r 11 (fun K D=>?_);go_simp
   refine D.o _ _ (bf) (fun bq=>?_);clear D K;refine Wl.r 12 (fun K D=>?_);rw[if_pos oE];refine qZd _ _ _ rfl _ _ [.int .i64 cd,.int .i64 0,.slice none 0 0].toArray rfl rfl aU zX (qYo (xZ rfl)) ?_;simp only[Act.put,qXe];refine D.o _ _ (⟨bb,bc,bd⟩) (fun br=>?_);clear D K;refine Wl.d ?_;go_wp2
   exact qYq (zq rfl _ _ (ob+1) 0 [.int .i64 cd,.int .i64 0,.slice none 0 0] _ rfl (qYl _ _ _ _ aU) underlying34 rfl zX) rfl ⟨ba.o,be.out⟩
end
section
variable{own own':Nat->Nat}{w w' W W':World}{v lb mb bl:Nat}{q:VoP}{n:CaN}{p:CaP}{a a':CaS}{md:Int}{cl:Bool}{f m:Int}
theorem RJ(h:uC w lb mb bl)(G:bl<=4096)(D:¬inS bl f m):Calls prog 169 #[.pointer (some ⟨lb,0,none⟩),sI f m] w fun e w'=>e=.returned (.int .i64 10)/\Below w.heap.size w w':=by
 obtain⟨w1,j⟩:=qqe (w.alloc (.cells #[.int .i64 f,.int .i64 m] 52));have s:=qqu j;have A:=qqg j;have J:w1.cell? ⟨w.heap.size,0,none⟩=some (.int .i64 f):=za A 0;have c1:w1.cell? ⟨w.heap.size,1,none⟩=some (.int .i64 m):=za A 1;have c2:w1.cell? ⟨lb,0,none⟩=some (.int .i64 (bl:Int)):=za (h.new s).1 0;have E:=Y2 j s;have H:f<0\/¬f<0/\m<1\/¬f<0/\¬m<1/\(bl:Int)<m\/¬f<0/\¬m<1/\¬(bl:Int)<m/\IntKind.i64.wrap ((bl:Int)-m)=(bl:Int)-m/\(bl:Int)-m<f:=by
  unfold inS at D;by_cases h1:f<0
  .exact .inl h1
  by_cases h2:m<1
  .exact .inr (.inl ⟨h1,h2⟩)
  by_cases k:(bl:Int)<m
  .exact .inr (.inr (.inl ⟨h1,h2,k⟩))
  .exact .inr (.inr (.inr ⟨h1,h2,k,qxu _ oM,oM⟩))
 clear h j s A D G;rcases H with h1|⟨h1,h2⟩|⟨h1,h2,k⟩|⟨h1,h2,k,M,O⟩
 all_goals
  go_enter func169,ntmps169
  go_upto_region 1 with fail
  rw[<-E.o.1]
  go_quiet(fail)
  go_wp2
  go_ret
  exact⟨rfl,zP (Upd.below E.o.2) _⟩
theorem Us(s:uC w lb mb bl)(A:bl<=4096)(D:¬inS bl f m):Calls prog 175 #[.pointer (some ⟨lb,0,none⟩),sI f m] w fun e w'=>e=.returned (.int .i64 10)/\Below w.heap.size w w':=by
 obtain⟨w1,h⟩:=qqe (w.alloc (.cells #[.int .i64 f,.int .i64 m] 52));have j:=qqu h;have E:=qqg h;have G:=zg E;have J:=qqh (RJ (s.new j) A D);have k:=Y2 h j;have M:=yz;clear s h j E D A;go_enter func175,ntmps175
 go_upto_region 1 with fail
 rw[<-k.o.1];go_wp2_with (first
  |(refine qYz rfl _ _ rfl _ _ rfl _ _ G underlying52 rfl M ?_)
  |fail)
 refine J.o.mono ?_;rintro e P ⟨rfl,H⟩;have O:=qqh (Below.trans (Upd.below k.o.2) (H.mono k.o.2.size));clear H G;go_wp2
 go_ret
 exact⟨rfl,O.o⟩
theorem sX(h:VolAt own w v q n p a md cl)(j:¬inS n.bl f m):Calls prog 105 #[ptr v,sI f m] w fun e w'=>e=.returned (.int .i64 10)/\Below w.heap.size w w':=
 WS h fun _ k=>Us k h.ca.ok.b2 j
theorem Ut(h:VolAt own w v q n p a md cl)(E:¬inS n.bl f m):Calls prog 100 #[ptr v,sI f m] w fun e w'=>e=.returned (.bool false)/\Below w.heap.size w w':=by
 obtain⟨w1,j⟩:=qqe (w.alloc (.cells #[.int .i64 f,.int .i64 m] 52));have k:=qqu j;have G:=qqg j;have h1:=h.new k;have c:=za h1.g 0;simp[Zb]at c;have O:=qqh (wJ h1.ca);have Q:=h.ca.ok.b2;have U:¬0<=f\/0<=f/\¬1<=m\/0<=f/\1<=m/\¬f<=(n.bl:Int)\/0<=f/\1<=m/\f<=(n.bl:Int)/\IntKind.i64.wrap ((n.bl:Int)-f)=(n.bl:Int)-f/\¬m<=(n.bl:Int)-f:=by
  unfold inS at E;by_cases h1:0<=f
  .by_cases h2:1<=m
   .by_cases H:f<=(n.bl:Int)
    .exact .inr (.inr (.inr ⟨h1,h2,H,qxu _ oM,oM⟩))
    .exact .inr (.inr (.inl ⟨h1,h2,H⟩))
   .exact .inr (.inl ⟨h1,h2⟩)
  .exact .inl h1
 have Z:=xE (n.id:Int) (n.bl:Int) (n.sl:Int) (n.jo:Int) (n.pa:Int) (n.lo:Int) (n.ba:Int);have s:=Y3 j k G;clear h j k G h1 Q E;rcases U with q1|⟨q1,q2⟩|⟨q1,q2,V⟩|⟨q1,q2,V,a6,a7⟩
 all_goals
  go_enter func100,ntmps100
  go_upto_region 1 with fail
  rw[<-s.o.1];go_wp2_with fail
  refine O.o.mono ?_;rintro e a8 ⟨rfl,J⟩;have A:=qqb J;have D:=A.j4 s.o.2.2;have X:=za D 0;have Y:=za D 1;simp at X Y;have M:=qqh (s.o.2.1.trans A);clear J A D c;go_wp2
  go_ret
  first
   |exact⟨rfl,M.o.below⟩
   |exact⟨(by show Ending.returned (.bool (decide (m<=(n.bl:Int)-f)))=_;rw[decide_eq_false oM]),M.o.below⟩
theorem Uu(h:VolAt own W v q n p a md false)(E:¬inS n.bl f m):Calls prog 62 #[ptr v,sI f m] W (TR own W v q n p a md false 10 []):=by
 obtain⟨D,s⟩:=qqe (W.heap.size);obtain⟨w1,j⟩:=qqe ((W.alloc (.cells #[ptr v] 49)).alloc (.cells #[.int .i64 f,.int .i64 m] 52));have A:Upd (fun _=>False) W w1:=by rw[j];exact((uur _ W).alloc _).alloc _
 have G:w1.heap[D]?=some (.cells #[ptr v] 49 (0,0)):=by rw[j,s];exact(qxk _ _ _ oe).trans (zc W _ rfl)
 have H:w1.heap[D+1]?=some (.cells #[.int .i64 f,.int .i64 m] 52 (0,0)):=by rw[j,s];exact zc _ _ oe
 have X:w1.cell? ⟨D,0,none⟩=some (ptr v):=za G 0;have J:=zg H;have M:=qqh (yp (h.new A));have O:=qqh (Ut (h.new A) E);have k:=Y4 h A j s;have Y:=underlying52;have Z:=yz;clear h E j A G H s;go_enter func62,ntmps62
 go_upto_region 1 with fail
 rw[<-k.o.2.2.1,<-k.o.2.2.2];go_wp2_with fail
 refine M.o.mono ?_;rintro e a6 ⟨rfl,Q⟩;rw[Q];clear Q;go_wp2_with (first
  |(refine qYz rfl _ _ rfl _ _ rfl _ _ J Y rfl Z ?_)
  |fail)
 refine O.o.mono ?_;rintro e a7 ⟨rfl,U⟩;have V:=qqh (k.o.2.1.trans (uuo (S:=fun _=>False) U));clear U X J M O;go_wp2
 go_ret2
 exact⟨_,own,rfl,k.o.1.new V.o,k.o.1.ca.ko V.o,Ro.nil _ _ _⟩
theorem WY{ad:Bool}(h:VolAt own W v q n p a md false)(J:¬inS n.bl f L.length)(h1:1<=L.length)(h2:L.length<=64)(M:Rz own W lv L):
  Calls prog 64 #[ptr v,.int .i64 f,.bool ad,lv] W (xw own W v q n p a md false (.int .i64 10)):=by
 obtain⟨j,s⟩:=qqe (W.heap.size);obtain⟨w1,k⟩:=qqe (((W.alloc (.cells #[ptr v] 49)).alloc (.cells #[.int .i64 f] 3)).alloc (.cells #[lv] 32));have D:Upd (fun _=>False) W w1:=by rw[k];exact(((uur _ W).alloc _).alloc _).alloc _
 have O:w1.heap.size=j+3:=by rw[k,s];simp
 have Q:w1.heap[j]?=some (.cells #[ptr v] 49 (0,0)):=by rw[k,s];exact(((uur (fun _=>False) _).alloc _).alloc _).j4 (zc W _ rfl)
 have U:w1.heap[j+1]?=some (.cells #[.int .i64 f] 3 (0,0)):=by rw[k,s];exact((uur (fun _=>False) _).alloc _).j4 (zc _ _ oe)
 have V:w1.heap[j+2]?=some (.cells #[lv] 32 (0,0)):=by rw[k,s];exact zc _ _ oe
 obtain⟨X,E⟩:=qqe (w1.alloc (.cells #[.int .i64 f,.int .i64 (L.length:Int)] 52));have G:=qqu E;have Y:X.heap[j+3]?=some (.cells #[.int .i64 f,.int .i64 (L.length:Int)] 52 (0,0)):=by rw[E];exact zc _ _ O.symm
 have Z:=qqh (yp (h.new D));have a6:=qqh (sX ((h.new D).new G) J);have a7:=zg Y;have a8:w1.cell? ⟨j,0,none⟩=some (ptr v):=za Q 0;have ae:w1.cell? ⟨j+1,0,none⟩=some (.int .i64 f):=za U 0;have af:w1.cell? ⟨j+2,0,none⟩=some lv:=za V 0;have ag:X.cell? ⟨j,0,none⟩=some (ptr v):=G.j3 a8 id;have H:=Y2 h (D.trans G);have A:=Y3 k E s;have ah:=underlying52;have ai:=yz;obtain⟨aj,ak,rfl⟩:=M.1.rd.j6;have q1:¬(L.length:Int)=0:=oM;have q2:((L.length:Int)==0)=false:=by simpa using q1
 clear h J k D E G Q U V Y M s O h1 h2;go_enter func64,ntmps64
 go_upto_region 1 with fail
 rw[<-A.o.1,<-A.o.2.2];go_wp2_with fail
 refine Z.o.mono ?_;rintro e w' ⟨rfl,rfl⟩;go_upto_region 7 with fail
 rw[show w'.heap.size=j+3 from by rw[A.o.1,A.o.2.2];simp,<-A.o.2.1];rw[show j+1+1=j+2 from rfl];clear a8 ae af;go_wp2_with (first
  |(refine qYz rfl _ _ rfl _ _ rfl _ _ a7 ah rfl ai ?_)
  |fail)
 refine a6.o.mono ?_;rintro e am ⟨rfl,aa⟩;have ab:=qqh (H.o.2.trans (uuo (S:=fun _=>False) aa));clear aa ag a7 Z a6;go_wp2
 go_ret
 exact⟨rfl,own,H.o.1.new ab.o,H.o.1.ca.ko ab.o⟩
theorem Zp(h:VolAt own W v q n p a md false)(A:¬inS n.bl f m):Calls prog 65 #[ptr v,sI f m] W (xw own W v q n p a md false (.int .i64 10)):=by
 obtain⟨w1,j⟩:=qqe (W.alloc (.cells #[.int .i64 f,.int .i64 m] 52));have k:=qqu j;have D:=qqg j;have E:=zg D;have G:=qqh (yp (h.new k));have H:=qqh (sX (h.new k) A);have P:=underlying52;have Q:=yz;have s:=Y3 h k j;clear h A j k D;go_enter func65,ntmps65
 go_upto_region 1 with fail
 rw[<-s.o.2.2];go_wp2_with fail
 refine G.o.mono ?_;rintro e w' ⟨rfl,J⟩;rw[J];clear J;go_wp2_with (first
  |(refine qYz rfl _ _ rfl _ _ rfl _ _ E P rfl Q ?_)
  |fail)
 refine H.o.mono ?_;rintro e U ⟨rfl,M⟩;have O:=qqh (s.o.2.1.trans (uuo (S:=fun _=>False) M));clear M E G H;go_wp2
 go_ret
 exact⟨rfl,own,s.o.1.new O.o,s.o.1.ca.ko O.o⟩
theorem Uv(h:VolAt own W v q n p a md false)(s:¬(0<=fr/\fr<=2)):Calls prog 71 #[ptr v,.int .i64 fr] W (xw own W v q n p a md false (.int .i64 1)):=by
 have A:=qqh (yp h);have j:=qqh h;have D:¬fr=0:=oM;have q1:¬fr=1:=oM;have q2:¬fr=2:=oM;have E:(fr==0)=false:=by simpa using D
 have G:(fr==1)=false:=by simpa using q1
 have H:(fr==2)=false:=by simpa using q2
 clear h s;go_enter func71,ntmps71
 go_wp2_with fail
 refine A.o.mono ?_;rintro e w' ⟨rfl,k⟩;rw[k];clear k;go_wp2
 go_ret
 exact⟨rfl,own,j.o,Did.refl j.o.ca.far⟩
end
theorem uI{P:Prop}(h:P:=by
 obtain⟨ob,hob⟩:=qqe (w.heap.size);obtain⟨w1,hw1⟩:=qqe ((w.alloc (.cells #[.int .i64 d,.int .i64 fr,.int .i64 m,.int .i64 fi,kp] 30)).alloc (.cells #[.int .i64 0,.int .i64 0,.slice none 0 0] 34));have hu1:Upd (fun _=>False) w w1:=by rw[hw1];exact((uur _ w).alloc _).alloc _
 have b1:Bo own w1 (ob+1) #[.int .i64 0,.int .i64 0,.slice none 0 0] 34:=⟨by rw[hw1,hob];exact zc _ _ oe,h.vo.ca.far _ oM⟩
 have h1:=h.new hu1;have c5:=za h1.g 5;simp at c5;have hn:0<ob+1/\1<ob+1:=by have:=h.vo.ca.nib.lt;have:=h.vo.ca.tur.lt;omega
 have hr:r<ob:=by rw[hob];exact zd h.g
 have HV:=qqh (hV w1 h1.vo);have H:=Y6 h1 (h.vo.ca.ko hu1) b1 hn hr hob;have HW:=Y2 hw1 hob;clear h h1 b1 hu1 hw1 hob hn hr hV;go_enter q1,q2
 go_upto_region 1 with fail
 rw[<-HW.o.1,<-HW.o.2];go_wp2_with fail
 refine HV.o.mono ?_;rintro e w4 ⟨rfl,own4,hv4,d4⟩;obtain⟨h1,d1,b1,hn,hr,hob⟩:=H.o;have b4:=b1.didR d4 (b1.neV h1.vo) (b1.neV h1.vo);have HF:=qqh (zZ.fin (Rq:=Sq v q) (v0:=v) (cd:=cd) (m:=0) (h1.vol hv4 d4) b4 (w:=w) oM hn (d1.toR.trans d4.run (.inl rfl)) ⟨rfl,rfl⟩ (Ro.nil _ own4 w4));have tA:=vK b4.1;clear h1 d1 b1 hn hr hob hv4 d4 b4 c5;go_wp2_with (first
  |(refine qZb rfl _ _ _ rfl _ _ [.int .i64 cd,.int .i64 0,.slice none 0 0].toArray rfl rfl tA zX (qYo (xZ rfl)) ?_)
  |fail)
 exact qYq (zq rfl _ _ (ob+1) 0 [.int .i64 cd,.int .i64 0,.slice none 0 0] _ rfl (qYl _ _ _ _ tA) underlying34 rfl zX) rfl HF.o):P:=h
section
variable{own own':Nat->Nat}{w w' W W':World}{r v:Nat}{q:VoP}{n:CaN}{p:CaP}{a a':CaS}{md md':Int}{cl cl':Bool}{d fr m fi cd:Int}{kp:Value}
namespace fFlush
theorem q1:type_of% @func35:= @func35
theorem q2:type_of% @ntmps35:= @ntmps35
end fFlush
open fFlush in
theorem WZ(h:RunAt own w r v q n p a md cl)(_:kp.oneCell'=true)(hV:∀W,VolAt own W v q n p a md cl->Calls prog 66 #[ptr v] W (VoR own W v q n p a' md' cl' (.int .i64 cd))):
  Calls prog 35 #[ptr r,uJ d fr m fi kp] w (zZ (Sq v q) own w r v n cd 0 [] a' md' cl'):=uI
namespace fTick
theorem q1:type_of% @func38:= @func38
theorem q2:type_of% @ntmps38:= @ntmps38
end fTick
open fTick in
theorem TT(h:RunAt own w r v q n p a md cl)(_:kp.oneCell'=true)(hV:∀W,VolAt own W v q n p a md cl->Calls prog 69 #[ptr v] W (VoR own W v q n p a' md' cl' (.int .i64 cd))):
  Calls prog 38 #[ptr r,uJ d fr m fi kp] w (zZ (Sq v q) own w r v n cd 0 [] a' md' cl'):=uI
namespace fDetach
theorem q1:type_of% @func41:= @func41
theorem q2:type_of% @ntmps41:= @ntmps41
end fDetach
open fDetach in
theorem Yc(h:RunAt own w r v q n p a md cl)(_:kp.oneCell'=true)(hV:∀W,VolAt own W v q n p a md cl->Calls prog 72 #[ptr v] W (VoR own W v q n p a' md' cl' (.int .i64 cd))):
  Calls prog 41 #[ptr r,uJ d fr m fi kp] w (zZ (Sq v q) own w r v n cd 0 [] a' md' cl'):=uI
theorem Xa(h:RunAt own w r v q n p a md cl)(_hkp:kp.oneCell'=true)(Z:∀W,VolAt own W v q n p a md cl->Calls prog 71 #[ptr v,.int .i64 fr] W (VoR own W v q n p a' md' cl' (.int .i64 cd))):
  Calls prog 40 #[ptr r,uJ d fr m fi kp] w (zZ (Sq v q) own w r v n cd 0 [] a' md' cl'):=by
 obtain⟨ob,k⟩:=qqe (w.heap.size);obtain⟨w1,E⟩:=qqe ((w.alloc (.cells #[.int .i64 d,.int .i64 fr,.int .i64 m,.int .i64 fi,kp] 30)).alloc (.cells #[.int .i64 0,.int .i64 0,.slice none 0 0] 34));have O:Upd (fun _=>False) w w1:=by rw[E];exact((uur _ w).alloc _).alloc _
 have j:Bo own w1 ob [.int .i64 d,.int .i64 fr,.int .i64 m,.int .i64 fi,kp].toArray 30:=⟨by rw[E,k];exact(qxk _ _ _ oe).trans (zc w _ rfl),h.vo.ca.far _ oM⟩
 have A:Bo own w1 (ob+1) #[.int .i64 0,.int .i64 0,.slice none 0 0] 34:=⟨by rw[E,k];exact zc _ _ oe,h.vo.ca.far _ oM⟩
 have h1:=h.new O;have a6:=za h1.g 5;have D:=j.cell 1;simp at a6 D;have aq:=zg j.1;have G:0<ob+1/\1<ob+1:=by have:=h.vo.ca.nib.lt;have:=h.vo.ca.tur.lt;omega
 have J:r<ob:=by rw[k];exact zd h.g
 have Q:=(uur (fun _=>False) w1).drew;have ah:=qqh (Z _ (h1.new Q).vo);have M:=qqh Q;clear Q;have ai:=Y7 h1 (h.vo.ca.ko O) j A G J k;have a7:=Y2 E k;have ar:=underlying30;have au:=vJ;clear h h1 j A O E k G J Z;go_enter func40,ntmps40
 go_upto_region 1 with fail
 rw[<-a7.o.1,<-a7.o.2];refine qZc (S:=fun W=>W.cell? ⟨r,5,none⟩=some (ptr v)/\W.cell? ⟨ob,1,none⟩=some (.int .i64 fr)) kR (⟨by rw[qYi];exact a6,by rw[qYi];exact D⟩) (fun aj=>?_);refine Wl.i [0,1,2,3,4,5] ?_;iterate 6 refine Wl.t aj ?_
 refine Wl.o ?_;refine Wl.r 6 (fun K s=>?_);go_simp
 refine ah.o.mono ?_;rintro e a8 ⟨rfl,ak,aa,H⟩;obtain⟨h1,ab,j,A,G,J,k⟩:=ai.o;have U:=(h1.new M.o).vol aa H;have V:=za U.g 5;have ad:=j.keep M.o id;have ae:=A.keep M.o id;have af:=ad.didR H (j.neV h1.vo) (j.neV h1.vo);have D:=ae.didR H (A.neV h1.vo) (A.neV h1.vo);simp at V;have am:=qqh (zZ.fin (Rq:=Sq v q) (v0:=v) (cd:=cd) (m:=0) U D (w:=w) oM G ((ab.trans (h1.vo.ca.ko M.o)).toR.trans H.run (.inl rfl)) ⟨rfl,rfl⟩ (Ro.nil _ ak a8));have ag:=vK D.1;have X:=zn a8 (ob+1) 0 [.int .i64 cd,.int .i64 0,.slice none 0 0];have an:=X.j3 V (fun e=>by replace e:r=ob+1:=e;omega);have Y:=af.cell 1;simp at Y;have ao:=X.j3 Y (fun e=>by replace e:ob=ob+1:=e;omega);clear h1 ab j A G J k U aa H ad ae af D X;refine s.o _ _ (⟨V,Y⟩) (fun ap=>?_);clear s K;refine Wl.r 7 (fun K s=>?_);go_simp
 refine s.o _ _ (ap) (fun av=>?_);clear s K;refine Wl.r 8 (fun K s=>?_);rw[if_pos oE];refine qZd _ _ _ rfl _ _ [.int .i64 cd,.int .i64 0,.slice none 0 0].toArray rfl rfl ag zX (qYo (xZ rfl)) ?_;simp only[Act.put,qXe];refine s.o _ _ (⟨an,ao⟩) (fun aw=>?_);clear s K;refine Wl.d ?_;go_wp2
 exact qYq (zq rfl _ _ (ob+1) 0 [.int .i64 cd,.int .i64 0,.slice none 0 0] _ rfl (qYl _ _ _ _ ag) underlying34 rfl zX) rfl am.o
theorem qK{X:Prop}(h:RunAt own w r v q n p a md cl)(ao:kp.oneCell'=true)(a7:∀W,VolAt own W v q n p a md cl->Calls prog 65 #[ptr v,sI fr m] W fun e W'=>VoR own W v q n p a' md' cl' (.int .i64 cd) e W'/\X):
  Calls prog 34 #[ptr r,uJ d fr m fi kp] w fun e w'=>zZ (Sq v q) own w r v n cd 0 [] a' md' cl' e w'/\X:=by
 obtain⟨ob,s⟩:=qqe (w.heap.size);obtain⟨w1,D⟩:=qqe ((w.alloc (.cells #[.int .i64 d,.int .i64 fr,.int .i64 m,.int .i64 fi,kp] 30)).alloc (.cells #[.int .i64 0,.int .i64 0,.slice none 0 0] 34));have U:Upd (fun _=>False) w w1:=by rw[D];exact((uur _ w).alloc _).alloc _
 have k:Bo own w1 ob [.int .i64 d,.int .i64 fr,.int .i64 m,.int .i64 fi,kp].toArray 30:=⟨by rw[D,s];exact(qxk _ _ _ oe).trans (zc w _ rfl),h.vo.ca.far _ oM⟩
 have A:Bo own w1 (ob+1) #[.int .i64 0,.int .i64 0,.slice none 0 0] 34:=⟨by rw[D,s];exact zc _ _ oe,h.vo.ca.far _ oM⟩
 have h1:=h.new U;have V:=za h1.g 5;have E:=k.cell 1;simp at V E;have a8:=zg k.1;have G:0<ob+1/\1<ob+1:=by have:=h.vo.ca.nib.lt;have:=h.vo.ca.tur.lt;omega
 have M:r<ob:=by rw[s];exact zd h.g
 have ap:=qqh a7;have aa:=Y7 h1 (h.vo.ca.ko U) k A G M s;have ab:=Y2 D s;have aq:=underlying30;have ar:=vJ;clear h h1 k A U D s G M a7;go_enter func34,ntmps34
 go_upto_region 1 with fail
 rw[<-ab.o.1,<-ab.o.2];refine qZc (S:=fun W=>W.cell? ⟨r,5,none⟩=some (ptr v)/\W.rangeAt ob 0 [.int .i64 d,.int .i64 fr,.int .i64 m,.int .i64 fi,kp]) kR (⟨by rw[qYi];exact V,by rw[qYk];exact a8⟩) (fun ad=>?_);refine Wl.i [0,1,2,3] ?_;iterate 4 refine Wl.t ad ?_
 refine Wl.o ?_;refine Wl.l 4 (fun w h=>h.2) aq ar ad ?_;refine Wl.r 5 (fun K j=>?_);go_simp
 refine(TQ ao _).mono ?_;rintro e aD ⟨rfl,ae⟩;have H:=(uur (fun _=>False) w1).drew.trans (uuo (S:=fun _=>False) ae);have au:=H.j3 V id;have av:=H.range a8 id;have aw:=qqh (ap.o _ (aa.o.1.new H).vo);have O:=qqh H;clear ae H;refine j.o _ _ (⟨au,av⟩) (fun aE=>?_);clear j K;refine Wl.r 6 (fun K j=>?_);go_simp
 refine aw.o.mono ?_;rintro e af ⟨Q,ag⟩;have ax:=qqh ag;obtain⟨rfl,ay,Q,J⟩:=Q;clear ag;obtain⟨h1,ah,k,A,G,M,s⟩:=aa.o;have Y:=(h1.new O.o).vol Q J;have Z:=za Y.g 5;have ai:=k.keep O.o id;have aj:=A.keep O.o id;have ak:=ai.didR J (k.neV h1.vo) (k.neV h1.vo);have E:=aj.didR J (A.neV h1.vo) (A.neV h1.vo);simp at Z;have az:=qqh (zZ.fin (Rq:=Sq v q) (v0:=v) (cd:=cd) (m:=0) Y E (w:=w) oM G ((ah.trans (h1.vo.ca.ko O.o)).toR.trans J.run (.inl rfl)) ⟨rfl,rfl⟩ (Ro.nil _ ay af));have am:=vK E.1;have a6:=zn af (ob+1) 0 [.int .i64 cd,.int .i64 0,.slice none 0 0];have aA:=a6.j3 Z (fun e=>by replace e:r=ob+1:=e;omega);have an:=zg ak.1;have aB:=a6.range an (fun e=>by replace e:ob=ob+1:=e;omega);clear h1 ah k A G M s Y Q J ai aj ak E a6;refine j.o _ _ (⟨Z,an⟩) (fun aC=>?_);clear j K;refine Wl.r 7 (fun K j=>?_);go_simp
 refine j.o _ _ (aC) (fun aF=>?_);clear j K;refine Wl.r 8 (fun K j=>?_);rw[if_pos oE];refine qZd _ _ _ rfl _ _ [.int .i64 cd,.int .i64 0,.slice none 0 0].toArray rfl rfl am zX (qYo (xZ rfl)) ?_;simp only[Act.put,qXe];refine j.o _ _ (⟨aA,aB⟩) (fun aG=>?_);clear j K;refine Wl.d ?_;go_wp2
 exact qYq (zq rfl _ _ (ob+1) 0 [.int .i64 cd,.int .i64 0,.slice none 0 0] _ rfl (qYl _ _ _ _ am) underlying34 rfl zX) rfl ⟨az.o,ax.out⟩
theorem sY(h:RunAt own w r v q n p a md cl)(j:kp.oneCell'=true)(k:∀W,VolAt own W v q n p a md cl->Calls prog 65 #[ptr v,sI fr m] W (VoR own W v q n p a' md' cl' (.int .i64 cd))):
  Calls prog 34 #[ptr r,uJ d fr m fi kp] w (zZ (Sq v q) own w r v n cd 0 [] a' md' cl'):=
 (qK (X:=True) h j (fun W s=>(k W s).mono fun _ _ h=>⟨h,trivial⟩)).mono fun _ _ h=>h.1
end
end Go.Proofs.YtpejdgiccaijfaaGreatDoor
