/- A volume in me -/
import Derived.Test.YtbnpkobbnjihjaaGreatDoorG26
import Derived.Test.YtbnpkobbnjihjaaGreatDoorG28
import Derived.Test.YtbnpkobbnjihjaaGreatDoorG27
set_option maxRecDepth 100000
set_option maxHeartbeats 2000000
namespace Go.Proofs.YtbnpkobbnjihjaaGreatDoor
open Go Go.RowKit Tryz
variable{m f cd fr d fi nn:Int}{u kp lv:Value}{b N k:Nat}{cs:Array Value}{F L:List Bk}{t T:TypeId}{S:Nat->Prop}
structure VoP where
 c:Nat
 li:Nat
 lc:Nat
 lf:Nat
 lb:Nat
 mb:Nat
def tj(q:VoP)(md:Int)(cl:Bool):List Value:=[ptr q.c,ptr q.li,ptr q.lc,ptr q.lf,ptr q.lb,.int .i64 1,.int .i64 0,.int .i64 2,.int .i64 md,.slice none 0 0,.bool cl]
structure VolAt(own:Nat->Nat)(w:World)(v:Nat)(q:VoP)(n:CaN)(p:CaP)(a:CaS)(md:Int)(cl:Bool):Prop where
 ca:CaAt own w q.c n p a
 g:w.heap[v]?=some (.cells (tj q md cl).toArray 102 (0,0))
 lk:vj w q.lb q.mb n.bl
 o1:own v=0
 o2:own q.lb=0
 o3:own q.mb=0
structure RunAt(own:Nat->Nat)(w:World)(r v:Nat)(q:VoP)(n:CaN)(p:CaP)(a:CaS)(md:Int)(cl:Bool):Prop where
 vo:VolAt own w v q n p a md cl
 g:w.heap[r]?=some (.cells #[.int .i64 1,.int .i64 0,.int .i64 2,ptr p.ssd,ptr p.back,ptr v] 60 (0,0))
 o:own r=0
section
variable{own own':Nat->Nat}{w w':World}{r v:Nat}{q:VoP}{n:CaN}{p:CaP}{a a':CaS}{md:Int}{cl:Bool}
theorem VolAt.did(h:VolAt own w v q n p a md cl)(j:CaAt own' w' q.c n p a')(d:Did own own' w w'):VolAt own' w' v q n p a' md cl:=
 ⟨j,(d.zero h.g h.o1).1,h.lk.keep d.upd (fun e=>e.1 h.o2) (fun e=>e.1 h.o3),(d.zero h.g h.o1).2,(d.zero h.lk.1 h.o2).2,(d.old _ h.lk.2.lt).trans h.o3⟩
theorem VolAt.new(h:VolAt own w v q n p a md cl)(j:Upd (fun _=>False) w w'):VolAt own w' v q n p a md cl:=h.did (h.ca.new j) (h.ca.j3 j)
theorem RunAt.did(h:RunAt own w r v q n p a md cl)(j:CaAt own' w' q.c n p a')(d:Did own own' w w'):RunAt own' w' r v q n p a' md cl:=
 ⟨h.vo.did j d,(d.zero h.g h.o).1,(d.zero h.g h.o).2⟩
theorem RunAt.new(h:RunAt own w r v q n p a md cl)(j:Upd (fun _=>False) w w'):RunAt own w' r v q n p a md cl:=h.did (h.vo.ca.new j) (h.vo.ca.j3 j)
def vv(own:Nat->Nat)(w:World)(v:Nat)(q:VoP)(n:CaN)(p:CaP)(a:CaS)(md:Int)(cl:Bool)(u:Value)(e:Ending)(w':World):Prop:=
 e=.returned u/\∃own',VolAt own' w' v q n p a md cl/\Did own own' w w'
end
def CaS.wrN(n:CaN)(md fr:Int)(xs:List Bk)(a:CaS):Nat->CaS
 |0=>a
 |k+1=>((CaS.wrN n md fr xs a k).ku n (fr+k) (xs.getD k zB) md).1
def CaS.rdN(n:CaN)(fr:Int)(a:CaS):Nat->CaS
 |0=>a
 |k+1=>((CaS.rdN n fr a k).j9 n (fr+k)).1
def CaS.rdC(n:CaN)(fr:Int)(a:CaS)(k:Nat):Bk×Int:=((CaS.rdN n fr a k).j9 n (fr+k)).2
section
variable{own:Nat->Nat}{w w':World}{v:Nat}{q:VoP}{n:CaN}{p:CaP}{a:CaS}{md:Int}{cl:Bool}
theorem zZ(h:VolAt own w v q n p a md false):Calls prog 140 #[ptr v] w fun e w'=>e=.returned (.int .i64 0)/\w'=w:=by
 have c:=za h.g 10;simp[tj]at c;clear h;go_enter func140,ntmps140
 go_wp2
 go_ret
 exact⟨rfl,rfl⟩
theorem zbt(h:VolAt own w v q n p a md cl)(J:inS n.bl f m):Calls prog 141 #[ptr v,ut f m] w fun e w'=>e=.returned (.bool true)/\Below w.heap.size w w':=by
 obtain⟨w1,j⟩:=qqe (w.alloc (.cells #[.int .i64 f,.int .i64 m] 50));have s:=qqu j;have G:=qqg j;have h1:=h.new s;have c:=za h1.g 0;simp[tj]at c;have K:=qqh (xH h1.ca);obtain⟨M,O,Q,R⟩:=J;have U:=h.ca.ok.b2;have q1:f>=0:=oM;have q2:m>=1:=oM;have Z:f<=(n.bl:Int):=oM;have a6:IntKind.i64.wrap ((n.bl:Int)-f)=(n.bl:Int)-f:=qxt _ oM;have a7:m<=(n.bl:Int)-f:=oM;have a8:=yO (n.id:Int) (n.bl:Int) (n.sl:Int) (n.jo:Int) (n.pa:Int) (n.lo:Int) (n.ba:Int);have A:=Y3 j s G;clear h j s G h1 U M O Q R;go_enter func141,ntmps141
 go_upto_region 1 with fail
 rw[<-A.o.1];go_wp2_with fail
 refine K.o.mono ?_;rintro e aa ⟨rfl,H⟩;have D:=qqb H;have E:=D.jV A.o.2.2;have V:=za E 0;have X:=za E 1;simp at V X;have Y:=qqh (A.o.2.1.trans D);clear H D E c;go_wp2
 go_ret
 exact⟨rfl,Y.o.below⟩
theorem Wy(h:VolAt own w v q n p a md cl)(K:∀W,vj W q.lb q.mb n.bl->Calls prog 216 #[ptr q.lb,ut f m] W fun e w'=>e=.returned (.int .i64 cd)/\Below W.heap.size W w'):
  Calls prog 146 #[ptr v,ut f m] w fun e w'=>e=.returned (.int .i64 cd)/\Below w.heap.size w w':=by
 obtain⟨b,D⟩:=qqe (w.heap.size);obtain⟨w1,s⟩:=qqe (w.alloc (.cells #[.int .i64 f,.int .i64 m] 50));have E:=qqu s;have M:w1.heap[b]?=some (.cells #[.int .i64 f,.int .i64 m] 50 (0,0)):=by rw[s,D];exact zc w _ rfl
 have h1:=h.new E;have G:=za h1.g 4;simp[tj]at G;have O:=zf M;have R:=qqh (K _ (h1.new ((uur _ w1).drew)).lk);have H:=Y3 s E D;have U:=underlying50;have V:=zV;clear h s E M h1 D K;go_enter func146,ntmps146
 go_upto_region 1 with fail
 rw[<-H.o.1,<-H.o.2.2];refine qZd (S:=fun W=>W.cell? ⟨v,4,none⟩=some (ptr q.lb)/\W.rangeAt b 0 [.int .i64 f,.int .i64 m]) kR (⟨by rw[qYi];exact G,by rw[qYk];exact O⟩) (fun Q=>?_);refine Wl.i [0,1,2,3] ?_;iterate 4 refine Wl.t Q ?_
 refine Wl.o ?_;refine Wl.l 4 (fun w h=>h.2) U V Q ?_;refine Wl.r 5 (fun J j=>?_);go_simp
 refine R.o.mono ?_;rintro e a6 ⟨rfl,A⟩;have X:=qqh (H.o.2.1.drew.trans (uuo (S:=fun _=>False) A));have c2:=(uuo (S:=fun _=>False) A).jU G id;have Y:=(uuo (S:=fun _=>False) A).range O id;clear A;refine j.o _ _ (⟨c2,Y⟩) (fun Z=>?_);clear j J;refine Wl.r 6 (fun J j=>?_);go_simp
 refine j.o _ _ (Z) (fun a7=>?_);clear j J;refine Wl.d ?_;go_wp2
 go_ret
 exact⟨rfl,X.o.below⟩
theorem YC(h:VolAt own w v q n p a md cl)(j:inS n.bl f m):Calls prog 146 #[ptr v,ut f m] w fun e w'=>e=.returned (.int .i64 0)/\Below w.heap.size w w':=
 Wy h fun _ s=>zam s h.ca.ok.b2 j
theorem Rl(h:VolAt own w v q n p a md cl)(k:Int):Calls prog 144 #[ptr v,.int .i64 k] w fun e w'=>e=.returned (.bool false)/\Below w.heap.size w w':=by
 have c:=za h.g 4;simp[tj]at c;have s:=qqh (Qn h.lk k);clear h;go_enter func144,ntmps144
 go_wp2_with fail
 refine s.o.mono ?_;rintro e D ⟨rfl,j⟩;have A:=qqh j;clear j c;go_wp2
 go_ret
 exact⟨rfl,A.o⟩
theorem YD{g:Nat}(fd:Nat)(fi ca:Array Value)(j:Nat->World->Prop)(s:0<=f/\f+N<=4096){w:World}(Z:∀M w,(callFunc fd M).run prog w=.ok (.enter fd M) w)
  (D:∀k W,j k W->W.cell? ⟨w.heap.size,0,none⟩=some (.int .i64 f))
  (O:∀k,k<N->∀W,j k W->Calls prog fd (fi++ #[.int .i64 (f+(k:Int))]++ca) W fun e W'=>e=.returned (.int .i64 0)/\j (k+1) W')
  (J:j 0 (w.alloc (.cells #[.int .i64 f,.int .i64 (N:Int)] 50))):Calls prog 142 #[ptr g,ut f N,.func (.func fd) fi ca] w fun e w'=>e=.returned (.int .i64 0)/\j N w':=by
 obtain⟨m,E⟩:=qqe (w.heap.size);obtain⟨w1,G⟩:=qqe (w.alloc (.cells #[.int .i64 f,.int .i64 (N:Int)] 50));have Q:w1.heap[m]?=some (.cells #[.int .i64 f,.int .i64 (N:Int)] 50 (0,0)):=by rw[G,E];exact zc w _ rfl
 have c1:w1.cell? ⟨m,1,none⟩=some (.int .i64 (N:Int)):=za Q 1;rw[<-G]at J;rw[<-E]at D;have H:=Y4 D O J s;have R:=Y2 G E;clear D O J G E Q s;go_enter func142,ntmps142
 go_upto_region 1 with fail
 rw[<-R.o.1,<-R.o.2];go_wp2_with fail
 clear c1;go_loopg[11] N (fun gk i wr=>∃k:Nat,k+gk=N/\i=.int .i64 (k:Int)/\j k wr)
 case atStart=>exact⟨0,oM,rfl,H.o.2.2.1⟩
 case round=>
  obtain⟨k,D,rfl,A⟩:=hrel;by_cases hlt:k<N
  .have X:(k:Int)<(N:Int):=oM;have s:=H.o.2.2.2;have Y:=H.o.1 k wr A;have a6:f+(k:Int)+1<=4096:=oM;have a7:0<=f:=s.1;have U:=qqh (H.o.2.1 k hlt wr A);clear A s;go_wp2_with fail
   refine U.o.mono ?_;rintro e a8 ⟨rfl,V⟩;have K:=qqh V;clear V U Y;go_wp2_with fail
   go_roundg (gk-1)
   case measure=>omega
   case rel=>exact⟨k+1,oM,by go_num,K.o⟩
  .obtain rfl:k=N:=oM;have X:¬((k:Int)<(k:Int)):=oM;have K:=qqh A;clear A;go_wp2_with fail
   try rw[qxq]
   go_ret
   exact⟨rfl,K.o⟩
end
structure VoFr(own0:Nat->Nat)(w0:World)(v:Nat)(q:VoP)(n:CaN)(p:CaP)(md:Int)(own:Nat->Nat)(W:World)(a:CaS):Prop where
 vo:VolAt own W v q n p a md false
 d:Did own0 own w0 W
 b:v<w0.heap.size/\q.lb<w0.heap.size/\q.mb<w0.heap.size/\1<w0.heap.size/\0<w0.heap.size
section
variable{own0 own own':Nat->Nat}{w0 W W':World}{v:Nat}{q:VoP}{n:CaN}{p:CaP}{a a':CaS}{md:Int}
theorem VoFr.start(h:VolAt own W v q n p a md false):VoFr own W v q n p md own W a:=⟨h,Did.refl h.ca.far,zd h.g,zd h.lk.1,h.lk.2.lt,h.ca.nib.lt,h.ca.tur.lt⟩
theorem VoFr.did(h:VoFr own0 w0 v q n p md own W a)(j:CaAt own' W' q.c n p a')(d:Did own own' W W'):VoFr own0 w0 v q n p md own' W' a':=⟨h.vo.did j d,h.d.trans d,h.b⟩
theorem VoFr.new(h:VoFr own0 w0 v q n p md own W a)(j:Upd (fun _=>False) W W'):VoFr own0 w0 v q n p md own W' a:=h.did (h.vo.ca.new j) (h.vo.ca.j3 j)
theorem VoFr.aside(h:VoFr own0 w0 v q n p md own W a)(D:Upd S W W')(E:∀j,S j->w0.heap.size<=j/\own j=0):VoFr own0 w0 v q n p md own W' a:=by
 obtain⟨H,J,K,M,O⟩:=h.b;have A:∀j,j<w0.heap.size->¬S j:=fun j G s=>absurd (E j s).1 oM;exact⟨⟨h.vo.ca.kf D (fun j s=>⟨(E j s).2,fun e=>A j (e▸M) s,fun e=>A j (e▸O) s⟩),(D.block v (zd h.vo.g) (A v H)).trans h.vo.g,h.vo.lk.keep D (A _ J) (A _ K),h.vo.o1,h.vo.o2,h.vo.o3⟩,
  ⟨h.d.upd.new D (fun i Q s=>absurd s (A i Q)),h.d.old,h.d.new,fun j G=>h.d.far j (qXr D.size G)⟩,h.b⟩
def Bo(own:Nat->Nat)(W:World)(b:Nat)(cs:Array Value)(t:TypeId):Prop:=W.heap[b]?=some (.cells cs t (0,0))/\own b=0
theorem Bo.did(h:Bo own W b cs t)(d:Did own own' W W'):Bo own' W' b cs t:=d.zero h.1 h.2
theorem Bo.keep(h:Bo own W b cs t)(j:Upd S W W')(s:¬S b):Bo own W' b cs t:=⟨(j.block b (zd h.1) s).trans h.1,h.2⟩
theorem Bo.cell(h:Bo own W b cs t)(k:Nat):W.cell? ⟨b,k,none⟩=cs[k]?:=za h.1 k
def Ro(w0:World)(own:Nat->Nat)(W:World)(v:Value)(F:List Bk):Prop:=Sl W 54 64 v F.length (rowC F)/\∀g,v.ownBlock=some g->w0.heap.size<=g/\own g=0
theorem Ro.did(h:Ro w0 own W u F)(d:Did own own' W W'):Ro w0 own' W' u F:=
 ⟨h.1.keep d.upd (fun g j s=>s.1 (h.2 g j).2),fun g j=>⟨(h.2 g j).1,(d.old g (h.1.lt j)).trans (h.2 g j).2⟩⟩
theorem Ro.keep(h:Ro w0 own W u F)(j:Upd S W W')(s:∀g,u.ownBlock=some g->¬S g):Ro w0 own W' u F:=⟨h.1.keep j s,h.2⟩
theorem Ro.ne(j:Ro w0 own W u F)(h:W.heap[b]?=some (.cells cs t (0,0)))(s:t≠54):¬ownS u b:=by
 intro e;obtain⟨-,⟨rfl,-⟩|⟨g,D,E,G,rfl,A,-⟩⟩:=j.1
 .cases e
 .cases e;rw[A]at h;cases h;exact s rfl
def CaS.rdL(n:CaN)(f:Int)(a:CaS)(k:Nat):List Bk:=(List.range k).map fun j=>(CaS.rdC n f a j).1
theorem CaS.rdL_len(n:CaN)(f:Int)(a:CaS)(k:Nat):(CaS.rdL n f a k).length=k:=by simp[CaS.rdL]
theorem CaS.rdL_snoc(n:CaN)(f:Int)(a:CaS)(k:Nat):CaS.rdL n f a (k+1)=CaS.rdL n f a k++[(CaS.rdC n f a k).1]:=by simp[CaS.rdL,List.range_succ]
def RdSt(own0:Nat->Nat)(w0:World)(v:Nat)(q:VoP)(n:CaN)(p:CaP)(md:Int)(a:CaS)(f:Int)(vb lb sb:Nat)(sv:Array Value)(k:Nat)(W:World):Prop:=
 ∃own lv,VoFr own0 w0 v q n p md own W (CaS.rdN n f a k)/\Bo own W vb #[ptr v] 47/\Bo own W sb sv 50/\Bo own W lb #[lv] 43/\w0.heap.size<=lb/\Ro w0 own W lv (CaS.rdL n f a k)
theorem zdU{ad lb sb:Nat}{ar:Array Value}(h:RdSt own0 w0 v q n p md a f ad lb sb ar k W)(au:(CaS.rdC n f a k).2=0)(b8:k<4096):
  Calls prog 143 #[.int .i64 (f+(k:Int)),ptr ad,ptr lb] W fun e W'=>e=.returned (.int .i64 0)/\RdSt own0 w0 v q n p md a f ad lb sb ar (k+1) W':=by
 obtain⟨own,lv,ae,af,av,bl,O,aw⟩:=h;have c1:=af.cell 0;have ax:=qqh (Rl ae.vo (f+(k:Int)));have E:=Y7 ae af av bl O aw au;simp at c1;clear ae af av bl O aw au;go_enter func143,ntmps143
 go_wp2_with fail
 refine ax.o.mono ?_;rintro e b9 ⟨rfl,ay⟩;have Q:=qqb ay;have G:=E.o.1.new Q;have R:=E.o.2.1.keep Q id;have c1:=R.cell 0;have c2:=za G.vo.g 0;simp[tj]at c1 c2;have az:=qqh (zaZ G.vo.ca (f+(k:Int)));have aX:=Y5 G R (E.o.2.2.1.keep Q id) (E.o.2.2.2.1.keep Q id) (E.o.2.2.2.2.2.1.keep Q (fun _ _ h=>h));clear ay Q G R ax;go_wp2_with fail
 refine az.o.mono ?_;rintro e aA ⟨y,cd,hy,aB,aC,rfl,Y,aD,U⟩;have aY:cd=0:=aB.trans E.o.2.2.2.2.2.2;subst aY;obtain⟨G,R,aE,aF,aG⟩:=aX.o;have aH:VoFr own0 w0 v q n p md Y aA (CaS.rdN n f a (k+1)):=G.did aD U;obtain⟨a6,a7⟩:=qqe (aA.alloc (.cells (bkC y).toArray 54));have V:=qqu a7;have aI:=qqg a7;have aJ:=zf aI;have j:=(aF.did U).keep V id;have H:=(aG.did U).keep V (fun _ _ h=>h);have aZ:=j.cell 0;simp at aZ;have ag:(bkC y).length=64:=by rw[zn,aC]
 have aK:(prog.info? 54).map (·.size)=some (bkC y).length:=by rw[ag];exact zI
 obtain⟨aL,z,aM,aN,aO,aP,aQ⟩:=yv;have s:=Y5 aM aN aO aP aQ;have A:=Y4 ag (zu y) aK hy;have aR:=H.1;have b0:=qqh (show Sl a6 54 64 lv k (rowC (CaS.rdL n f a k)) by have:=H.1;rwa[CaS.rdL_len]at this);have b1:=Y5 (aH.new V) ((R.did U).keep V id) ((aE.did U).keep V id) j H;have b2:=qqh a7;rw[CaS.rdL_len]at aR;obtain⟨ah,ai,rfl⟩:=aR.rd.jW;clear hy aB aC aD U G R aE aF aG aH V aI j H a7 ag aK aM aN aO aP aQ c1 c2 az;go_wp2_with (first
  |(refine zk rfl _ _ _ rfl _ _ (bkC y) rfl rfl (by rw[A.o.1];rfl) A.o.2.2.1 A.o.2.1 ?_;refine Stop.i ?_)
  |fail)
 unfold Stop;rw[<-b2.o];go_wp2_with (first
  |(refine qZa rfl _ _ rfl _ _ rfl _ _ aJ underlying54 rfl A.o.2.2.1 ?_)
  |(refine yD rfl 43 54 _ rfl 64 de underlying43 ⟨aL,z,s.o.1,s.o.2.1,s.o.2.2.1,s.o.2.2.2.1⟩ de (bkC y) rfl A.o.1 ?_)
  |(at_builtin;refine zK rfl _ _ _ rfl aL z 64 underlying43 s.o.1 s.o.2.1 s.o.2.2.2.1 s.o.2.2.2.2 s.o.2.2.1 de rfl b0.o (bkC y) oA A.o.1 A.o.2.1 oh oM ?_;intro J aj a8 K X;refine Stop.i ?_)
  |fail)
 obtain⟨b3,b4,rfl⟩:=a8.rd.jW;obtain⟨J,aa⟩:=qqe (Value.slice b3 (k+1) b4);rw[<-aa]at a8 X;obtain⟨ab,ak,am,j,H⟩:=b1.o;replace K:Upd (ownS (.slice ah k ai)) a6 aj:=K;replace X:blockFrom a6 (.slice ah k ai) J:=X;have M:Ro w0 Y a6 (.slice ah k ai) (CaS.rdL n f a k):=H;have O:=E.o.2.2.2.2.1;have aS:=ab.aside K (fun an ao=>M.2 an ao);have ap:=ak.keep K (M.ne ak.1 de);have aq:=am.keep K (M.ne am.1 de);have D:=j.keep K (M.ne j.1 de);have aT:J.ownBlock≠some lb:=fun e=>by
  rcases X with h|⟨g,h,hg⟩
  .exact M.ne j.1 de (h.symm.trans e)
  .rw [h]at e;cases e;exact absurd (zd j.1) oM
 have aU:∀g,J.ownBlock=some g->w0.heap.size<=g/\Y g=0:=fun g hg=>by
  rcases X with h|⟨ba,h,aV⟩
  .exact M.2 g (h.symm.trans hg)
  .rw [h]at hg;cases hg;exact⟨qXr (qXr (Nat.le_of_lt (zd j.1)|>fun _=>ab.d.upd.size) (qXp _)) aV,ab.vo.ca.far g aV⟩
 have bb:=qqh aa;have b5:=D.cell 0;have f5:=zg D.1 0;simp at b5;have Z:=zi aj lb 0 J;have aW:=Y7 (aS.aside Z (fun an (ao:an=lb)=>by rw[ao];exact⟨O,D.2⟩)) (ap.keep Z (fun e=>by
  have h1:=ap.1;have h2:=D.1;rw[e,h2]at h1;cases h1)) (aq.keep Z (fun e=>by
  have h1:=aq.1;have h2:=D.1;rw[e,h2]at h1;cases h1)) (show Bo Y (aj.setCell ⟨lb,0,none⟩ J) lb #[J] 43 from⟨xk D.1,D.2⟩) O (a8.keep Z (fun g hg e=>aT jT)) aU
 rw[aa]at aW;clear ab ak am j H K X M O aS ap aq D aT aU Z a8 aJ aa;unfold Stop;go_wp2
 go_ret
 obtain⟨a1,a2,a3,a4,a5,b6,b7⟩:=aW.o;refine⟨rfl,Y,_,a1,a2,a3,a4,a5,?_,b7⟩;rw[CaS.rdL_len,CaS.rdL_snoc,we,show(CaS.rdC n f a k).1=y from A.o.2.2.2.symm];exact b6
theorem zbu(h:VolAt own W v q n p a md false)(Q:inS n.bl f N)(ae:∀k,k<N->(CaS.rdC n f a k).2=0):
  Calls prog 76 #[ptr v,ut f N] W fun e W'=>∃u own',e=.returned (.tuple #[u,.int .i64 0])/\VolAt own' W' v q n p (CaS.rdN n f a N) md false/\Did own own' W W'/\Ro W own' W' u (CaS.rdL n f a N):=by
 have aF:=h.ca.ok.b2;have a6:N<=4096:=by obtain⟨-,-,aO,-⟩:=Q;omega
 have af:0<=f/\f+N<=4096:=by obtain⟨aP,-,-,aQ⟩:=Q;omega
 obtain⟨A,R⟩:=qqe (W.heap.size);obtain⟨w1,M⟩:=qqe ((W.alloc (.cells #[ptr v] 47)).alloc (.cells #[.int .i64 f,.int .i64 (N:Int)] 50));have ag:Upd (fun _=>False) W w1:=by rw[M];exact((uur _ W).alloc _).alloc _
 have ah:w1.heap[A]?=some (.cells #[ptr v] 47 (0,0)):=by rw[M,R];exact(qxk _ _ _ oe).trans (zc W _ rfl)
 have a7:w1.heap[A+1]?=some (.cells #[.int .i64 f,.int .i64 (N:Int)] 50 (0,0)):=by rw[M,R];exact zc _ _ oe
 have U:VoFr own W v q n p md own w1 a:=(VoFr.start h).new ag;have D:Bo own w1 A #[ptr v] 47:=⟨ah,h.ca.far _ oM⟩
 have O:Bo own w1 (A+1) #[.int .i64 f,.int .i64 (N:Int)] 50:=⟨a7,h.ca.far _ oM⟩
 obtain⟨a8,ai,aR⟩:=VT N a6;have aj:=D.cell 0;have ak:=zf a7;simp at aj;have am:=qqh (zZ U.vo);have an:=qqh (zbt U.vo Q);have H:=Y8 U D O af a6 ai ae M;have ao:=underlying50;have ap:=zV;have aS:=qqf;clear h Q aF af a6 M ag ah a7 U D O ai ae;go_enter func76,ntmps76
 go_upto_region 1 with fail
 rw[<-H.o.2.2.2.2.2.2.2,<-R];clear R;go_wp2_with fail
 refine am.o.mono ?_;rintro e aT ⟨rfl,rfl⟩;go_wp2_with (first
  |(refine qZa rfl _ _ rfl _ _ rfl _ _ ak ao rfl ap ?_)
  |fail)
 refine an.o.mono ?_;rintro e J ⟨rfl,aq⟩;have E:=uuo (S:=fun _=>False) aq;have aG:=(H.o.2.2.1.keep E id).cell 1;simp at aG;obtain⟨j,G⟩:=qqe (J.heap.size);obtain⟨s,K⟩:=qqe ((J.alloc (.cells a8 54)).alloc (.cells #[.slice (some ⟨j,0,none⟩) 0 N] 43));have V:Upd (fun _=>False) J s:=by rw[K];exact((uur _ J).alloc _).alloc _
 have ar:s.heap[j]?=some (.cells a8 54 (0,0)):=by rw[K,G];exact(qxk _ _ _ oe).trans (zc J _ rfl)
 have gl:s.heap[j+1]?=some (.cells #[.slice (some ⟨j,0,none⟩) 0 N] 43 (0,0)):=by rw[K,G];exact zc _ _ oe
 have X:s.heap.size=j+2:=by rw[K,G];simp
 have au:W.heap.size<=j:=by rw[G];exact(H.o.1.new E).d.upd.size
 have av:=(H.o.1.new E).new V;have D:=(H.o.2.1.keep E id).keep V id;have O:=(H.o.2.2.1.keep E id).keep V id;have aw:=zf O.1;have ax:=D.cell 0;simp at ax;have Y:∀aa,J.heap.size<=aa->own aa=0:=(H.o.1.new E).vo.ca.far;have ay:Ro W own s (.slice (some ⟨j,0,none⟩) 0 N) []:=by
  refine⟨⟨rfl,.inr ⟨j,0,N,a8,rfl,ar,qXz _,by have:=H.o.2.2.2.2.1;unfold maxLen;omega,by rw[H.o.2.2.2.2.2.1];omega,fun aa u aH=>by simp[rowC]at aH⟩⟩,fun g aI=>?_⟩;cases aI;exact⟨au,Y _ (Nat.le_of_eq G.symm)⟩
 have az:RdSt own W v q n p md a f A (j+1) (j+2) #[.int .i64 f,.int .i64 (N:Int)] 0 (s.alloc (.cells #[.int .i64 f,.int .i64 (N:Int)] 50)):=by
  have Z:Upd (fun _=>False) s (s.alloc (.cells #[.int .i64 f,.int .i64 (N:Int)] 50)):=(uur _ s).alloc _;exact⟨own,_,av.new Z,D.keep Z id,⟨zc _ _ X.symm,Y _ oM⟩,(show Bo own s (j+1) _ _ from⟨gl,Y _ oM⟩).keep Z id,oM,ay.keep Z (fun _ _ h=>h)⟩
 have aA:=qqh (YD (g:=v) (N:=N) 143 #[] #[ptr A,ptr (j+1)] (RdSt own W v q n p md a f A (j+1) (j+2) #[.int .i64 f,.int .i64 (N:Int)]) H.o.2.2.2.1 (w:=s) (enters_of func143 kR rfl)
  (fun k aJ ab=>by
   obtain⟨own',lv,-,-,aK,-⟩:=ab;rw[X];exact aK.cell 0)
  (fun k aL aJ ab=>zdU ab (H.o.2.2.2.2.2.2.1 k aL) oZ) az)
 have aB:=Y2 K G;have aU:=qqh X;clear aq E V ar gl X au av D O Y ay az ak aj an am K G;go_upto_region 7 with fail
 rw[<-aB.o.2,<-aB.o.1];go_wp2_with (first
  |(refine qZa rfl _ _ rfl _ _ rfl _ _ aw ao rfl ap ?_)
  |fail)
 refine aA.o.mono ?_;rintro e aV ⟨rfl,aM,lv,aC,-,-,aD,-,aE⟩;have aN:=aD.cell 0;simp at aN;have ad:=Y2 aC aE;clear aC aD aE aA aw ax;go_wp2
 go_ret2
 exact⟨_,aM,rfl,ad.o.1.vo,ad.o.1.d,ad.o.2⟩
end
def Rz(own:Nat->Nat)(W:World)(v:Value)(F:List Bk):Prop:=Sl W 54 64 v F.length (rowC F)/\∀g,v.ownBlock=some g->own g=0
section
variable{own0 own own':Nat->Nat}{w0 W W':World}{v:Nat}{q:VoP}{n:CaN}{p:CaP}{a a':CaS}{md:Int}
theorem Rz.did(h:Rz own W u F)(d:Did own own' W W'):Rz own' W' u F:=
 ⟨h.1.keep d.upd (fun g j s=>s.1 (h.2 g j)),fun g j=>(d.old g (h.1.lt j)).trans (h.2 g j)⟩
theorem Rz.new(h:Rz own W u F)(j:Upd (fun _=>False) W W'):Rz own W' u F:=⟨h.1.keep j (fun _ _ h=>h),h.2⟩
structure WrSt(own0:Nat->Nat)(w0:World)(v:Nat)(q:VoP)(n:CaN)(p:CaP)(md:Int)(a:CaS)(f:Int)(xs:List Bk)(I:Nat->CaS->Prop)(lv:Value)(vb fb lb sb:Nat)(sv:Array Value)(k:Nat)(own:Nat->Nat)(W:World):Prop where
 vo:VoFr own0 w0 v q n p md own W (CaS.wrN n md f xs a k)
 bv:Bo own W vb #[ptr v] 47
 bf:Bo own W fb #[.int .i64 f] 3
 bl:Bo own W lb #[lv] 43
 bs:Bo own W sb sv 50
 ro:Rz own W lv xs
 iv:I k (CaS.wrN n md f xs a k)
def zbv(n:CaN)(md f:Int)(xs:List Bk)(I:Nat->CaS->Prop):Prop:=∀k b,k<xs.length->I k b->b.Jg n->1<=b.next->
 (∃M,b.Tie n none/\b.Fit M/\M+3*n.pa+n.jo+6<=50000)/\(b.ku n (f+(k:Int)) (xs.getD k zB) md).2=0/\I (k+1) (b.ku n (f+(k:Int)) (xs.getD k zB) md).1
theorem zdV{G fb lb sb:Nat}{Y:Array Value}{xs:List Bk}{I:Nat->CaS->Prop}(h:WrSt own0 w0 v q n p md a f xs I lv G fb lb sb Y k own W)(Z:All64 xs)(H:k<xs.length)(aA:0<=f/\f+xs.length<=4096)(ap:f+xs.length<=(n.bl:Int))(a6:md=0)(a7:zbv n md f xs I):
  Calls prog 147 #[.int .i64 (f+(k:Int)),ptr G,ptr lb,ptr fb] W fun e W'=>e=.returned (.int .i64 0)/\∃own',WrSt own0 w0 v q n p md a f xs I lv G fb lb sb Y (k+1) own' W':=by
 obtain⟨g,o,aq,ar,J⟩:=zcf h.ro.1.rd Z H;have M:=Z _ (qyu H);have O:xs.getD k zB=xs[k]:=by rw[qyf,qyj H];rfl
 have s:=(uur (fun _=>False) W).drew;obtain⟨⟨aB,a8,aa,ab⟩,ad,K⟩:=a7 k _ H h.iv h.vo.vo.ca.jg h.vo.vo.ca.nx1;have Q:=QT a6 (h.vo.new s).vo.ca aa ab a8 (f+(k:Int)) ⟨oM,oM⟩ xs[k] M;have ae:=h.bv.cell 0;have c1:=za h.vo.vo.g 0;have c2:=za h.vo.vo.g 8;have af:=h.bl.cell 0;have ag:=h.bf.cell 0;simp[tj]at ae c1 c2 af ag;rw[<-O,ad]at Q;have ah:=qqh Q;have ai:=Y3 K h s;have q1:f+(k:Int)-f=(k:Int):=oM;have q2:IntKind.i64.wrap (k:Int)=(k:Int):=qxt _ oM;have aC:(0:Int)<=(k:Int):=oM;have aD:(k:Int)<(xs.length:Int):=oM;have R:=zv xs[k] M;have au:=underlying54;subst ar;rw[<-O]at J R;obtain⟨x,hx⟩:=qqe (xs.getD k zB);rw[<-hx]at J R ah;have av:=qqh hx;clear a6 ap h a7 K Q a8 aa ab s ad M O hx;go_enter func147,ntmps147
 go_upto_region 1 with fail
 refine qZd (S:=fun W=>W.cell? ⟨G,0,none⟩=some (ptr v)/\W.cell? ⟨v,0,none⟩=some (ptr q.c)/\W.cell? ⟨v,8,none⟩=some (.int .i64 md)/\W.cell? ⟨lb,0,none⟩=some (.slice (some ⟨g,o,none⟩) xs.length aq)/\W.cell? ⟨fb,0,none⟩=some (.int .i64 f)/\W.rangeAt g (o+k*64) (bkC x)) kR (⟨by rw[qYi];exact ae,by rw[qYi];exact c1,by rw[qYi];exact c2,by rw[qYi];exact af,by rw[qYi];exact ag,by rw[qYk];exact J⟩) (fun U=>?_);refine Wl.i [0,1,2,3,4,5,6,7,8,9] ?_;iterate 10 refine Wl.t U ?_
 refine Wl.o ?_;refine Wl.l 10 (fun w h=>h.2.2.2.2.2) au R U ?_;refine Wl.i [11,12,13,14] ?_;iterate 4 refine Wl.t U ?_
 refine Wl.o ?_;refine Wl.r 15 (fun V E=>?_);go_simp
 refine ah.o.mono ?_;rintro e aj ⟨rfl,X,A,D⟩;have aw:=qqh (⟨X,A,D⟩:∃own',CaAt own' aj q.c n p _/\Did own own' W.drew aj);obtain⟨-,h,s⟩:=ai.o;have j:=(h.vo.vo.ca.j3 s).trans D;have s0:=(h.bv.did j).cell 0;have ak:=za (h.vo.vo.did A j).g 0;have am:=za (h.vo.vo.did A j).g 8;have an:=(h.bl.did j).cell 0;have ao:=(h.bf.did j).cell 0;simp[tj]at s0 ak am an ao;have ax:=j.upd.range J (fun e=>e.1 (h.ro.2 g rfl));clear A D h s j;refine E.o _ _ (⟨s0,ak,am,an,ao,ax⟩) (fun ay=>?_);clear E V;refine Wl.r 16 (fun V E=>?_);go_simp
 refine E.o _ _ (ay) (fun aE=>?_);clear E V;refine Wl.d ?_;go_wp2
 go_ret
 obtain⟨K,h,s⟩:=ai.o;obtain⟨X,A,D⟩:=aw.o;rw[av.o]at A;have az:=h.vo.vo.ca.j3 s;have j:=az.trans D;exact⟨rfl,X,(h.vo.new s).did A D,h.bv.did j,h.bf.did j,h.bl.did j,h.bs.did j,h.ro.did j,K⟩
theorem Wz(h:VolAt own W v q n p a md false)(h1:∀x∈a.W,1<=x.1)(D:a.dO.length+a.W.length<=65536):
  Calls prog 80 #[ptr v] W (vv own W v q n p (a.jZ n).1 md false (.int .i64 (a.jZ n).2)):=by
 have c:=za h.g 0;simp[tj]at c;have E:=qqh (zZ h);have G:=qqh (wM h.ca h1 D);have H:=qqh h;clear h;go_enter func80,ntmps80
 go_wp2_with fail
 refine E.o.mono ?_;rintro e K ⟨rfl,rfl⟩;go_wp2_with fail
 refine G.o.mono ?_;rintro e M ⟨rfl,J,s,j⟩;have A:=Y2 (H.o.did s j) j;clear s j c;generalize (CaS.jZ n a).2=cd at*;go_wp2
 go_ret
 exact⟨rfl,J,A.o.1,A.o.2⟩
def CaS.wrF(n:CaN)(md f:Int)(xs:List Bk)(a:CaS)(firm:Bool):CaS:=if firm then((CaS.wrN n md f xs a xs.length).jZ n).1 else CaS.wrN n md f xs a xs.length
theorem WA{xs:List Bk}{I:Nat->CaS->Prop}{a7:Bool}(h:VolAt own W v q n p a md false)(ap:md=0)(V:inS n.bl f xs.length)(X:All64 xs)(J:Rz own W lv xs)(Y:zbv n md f xs I)(Z:I 0 a)
  (A:∀b,I xs.length b->b.Jg n->1<=b.next->(∃aa,b.Fit aa/\aa<=50000)/\(a7=true->(b.jZ n).2=0)):
  Calls prog 78 #[ptr v,.int .i64 f,.bool a7,lv] W fun e W'=>vv own W v q n p (CaS.wrF n md f xs a a7) md false (.int .i64 0) e W'/\I xs.length (CaS.wrN n md f xs a xs.length)/\(CaS.wrN n md f xs a xs.length).Jg n/\1<=(CaS.wrN n md f xs a xs.length).next:=by
 have aR:=h.ca.ok.b2;have aS:1<=xs.length:=by obtain⟨-,b8,-,-⟩:=V;omega
 have K:0<=f/\f+xs.length<=4096:=by obtain⟨aT,-,-,aU⟩:=V;omega
 have aq:=Y2 (show f+xs.length<=(n.bl:Int) by obtain⟨aT,-,-,aU⟩:=V;omega) ap;obtain⟨j,M⟩:=qqe (W.heap.size);obtain⟨w1,D⟩:=qqe (((W.alloc (.cells #[ptr v] 47)).alloc (.cells #[.int .i64 f] 3)).alloc (.cells #[lv] 43));have ab:Upd (fun _=>False) W w1:=by rw[D];exact(((uur _ W).alloc _).alloc _).alloc _
 have ar:w1.heap.size=j+3:=by rw[D,M];simp
 have ad:w1.heap[j]?=some (.cells #[ptr v] 47 (0,0)):=by rw[D,M];exact(((uur (fun _=>False) _).alloc _).alloc _).jV (zc W _ rfl)
 have ae:w1.heap[j+1]?=some (.cells #[.int .i64 f] 3 (0,0)):=by rw[D,M];exact((uur (fun _=>False) _).alloc _).jV (zc _ _ oe)
 have af:w1.heap[j+2]?=some (.cells #[lv] 43 (0,0)):=by rw[D,M];exact zc _ _ oe
 obtain⟨O,a8⟩:=qqe (w1.alloc (.cells #[.int .i64 f,.int .i64 (xs.length:Int)] 50));have E:=qqu a8;have ag:O.heap[j+3]?=some (.cells #[.int .i64 f,.int .i64 (xs.length:Int)] 50 (0,0)):=by rw[a8];exact zc _ _ ar.symm
 have ah:VoFr own W v q n p md own w1 a:=(VoFr.start h).new ab;have Q:=ah.new E;have aV:=qqh (zZ ah.vo);have au:=qqh (YC Q.vo V);have av:=zf ag;have aw:w1.cell? ⟨j,0,none⟩=some (ptr v):=za ad 0;have aW:w1.cell? ⟨j+1,0,none⟩=some (.int .i64 f):=za ae 0;have aX:w1.cell? ⟨j+2,0,none⟩=some lv:=za af 0;have aY:O.cell? ⟨j,0,none⟩=some (ptr v):=E.jU aw id;have aZ:=Y5 (show Bo own O j #[ptr v] 47 from⟨E.jV ad,h.ca.far _ oM⟩) (show Bo own O (j+1) #[.int .i64 f] 3 from⟨E.jV ae,h.ca.far _ oM⟩) (show Bo own O (j+2) #[lv] 43 from⟨E.jV af,h.ca.far _ oM⟩) (show Bo own O (j+3) #[.int .i64 f,.int .i64 (xs.length:Int)] 50 from⟨ag,h.ca.far _ oM⟩) Q;have ax:=Y6 Y Z A X K ((J.new ab).new E);have a6:=Y3 D a8 M;have ay:=underlying50;have az:=zV;have b9:=qqf;obtain⟨aA,aB,rfl⟩:=J.1.rd.jW;have ba:(xs.length:Int)<=4096:=oM;have q1:¬(xs.length:Int)=0:=oM;have q2:((xs.length:Int)==0)=false:=by simpa using q1
 clear h V ap aR K D ab a8 E ad ae af ag ah Q Y Z A X J M ar aS;go_enter func78,ntmps78
 go_upto_region 1 with fail
 rw[<-a6.o.1,<-a6.o.2.2];go_wp2_with fail
 refine aV.o.mono ?_;rintro e w' ⟨rfl,rfl⟩;go_upto_region 7 with fail
 rw[show w'.heap.size=j+3 from by rw[a6.o.1,a6.o.2.2];simp,<-a6.o.2.1];rw[show j+1+1=j+2 from rfl];clear aw aW aX;go_wp2_with (first
  |(refine qZa rfl _ _ rfl _ _ rfl _ _ av ay rfl az ?_)
  |fail)
 refine au.o.mono ?_;rintro e G ⟨rfl,aC⟩;have H:=uuo (S:=fun _=>False) aC;obtain⟨aD,aE,bl,aF,Q⟩:=aZ.o;have ai:=aD.keep H id;have aG:=aE.keep H id;have aH:=bl.keep H id;have aI:=zf (aF.keep H id).1;have aJ:=ai.cell 0;simp at aJ;have aj:=Q.new H;have R:Upd (fun _=>False) G (G.alloc (.cells #[.int .i64 f,.int .i64 (xs.length:Int)] 50)):=(uur _ G).alloc _;obtain⟨Y,Z,A,X,K,J⟩:=ax.o;have aK:WrSt own W v q n p md a f xs I (.slice aA xs.length aB) j (j+1) (j+2) G.heap.size #[.int .i64 f,.int .i64 (xs.length:Int)] 0 own (G.alloc (.cells #[.int .i64 f,.int .i64 (xs.length:Int)] 50)):=
  ⟨aj.new R,ai.keep R id,aG.keep R id,aH.keep R id,⟨zc _ _ rfl,aj.vo.ca.far _ (qXp _)⟩,(J.new H).new R,Z⟩
 have aL:=qqh (YD (g:=v) (N:=xs.length) 147 #[] #[ptr j,ptr (j+2),ptr (j+1)] (fun k ak=>∃own',WrSt own W v q n p md a f xs I (.slice aA xs.length aB) j (j+1) (j+2) G.heap.size #[.int .i64 f,.int .i64 (xs.length:Int)] k own' ak) K (w:=G) (enters_of func147 kR rfl)
  (fun k ak ⟨own',am⟩=>am.bs.cell 0)
  (fun k b0 ak ⟨own',am⟩=>zdV am X b0 K aq.o.1 aq.o.2 Y) ⟨own,aK⟩)
 clear aC H aD aE bl aF Q ai aG aH aj R Y Z A X K J aK av aY au;go_upto_region 11 with(first
  |(refine qZa rfl _ _ rfl _ _ rfl _ _ aI ay rfl az ?_)
  |(go_at_call 142;refine Stop.i ?_)
  |fail)
 unfold Stop;refine aL.o.mono ?_;rintro e bb ⟨rfl,b1,s⟩;obtain⟨-,-,A,-⟩:=ax.o;have m1:=s.bv.cell 0;simp at m1;obtain⟨⟨aa,an,b3⟩,aM⟩:=A _ s.iv s.vo.vo.ca.jg s.vo.vo.ca.nx1;have b4:=an.dO;have b5:=s.vo.vo.ca.jg.len;have b6:=s.vo.vo.ca.ok.j2;have aN:=qqh (Wz s.vo.vo an.w1 oM);have U:=Y6 s.vo.vo s.vo.d aM s.iv s.vo.vo.ca.jg s.vo.vo.ca.nx1;clear s A an b3 aM b4 b5 b6 aL aI aJ;cases a7 with
 |false=>
  go_wp2
  go_ret
  exact⟨⟨rfl,b1,U.o.1,U.o.2.1⟩,U.o.2.2.2⟩
 |true=>
  go_wp2_with fail
  refine aN.o.mono ?_;rintro e bc ⟨rfl,b7,aO,aP⟩;have ao:=U.o.2.2.1 trivial;have aQ:=Y3 aO (U.o.2.1.trans aP) ao;rw[ao];clear aO aP ao aN m1;go_wp2
  go_ret
  exact⟨⟨rfl,b7,aQ.o.1,aQ.o.2.1⟩,U.o.2.2.2⟩
end
theorem zO:(prog.info? 45).map (·.size)=some 3:=kR
section
variable{own0 own own':Nat->Nat}{w0 w w' W W':World}{r v:Nat}{q:VoP}{n:CaN}{p:CaP}{a a':CaS}{md md':Int}{cl cl':Bool}
theorem VolAt.box(h:VolAt own W v q n p a md cl)(s:Bo own W b cs T)(h1:T≠102)(h2:T≠150)(D:b≠1/\b≠0)(A:Upd (fun E=>E=b) W W'):VolAt own W' v q n p a md cl:=by
 have H:v≠b:=fun e=>by
  have j:=h.g;rw[e,s.1]at j;cases j;exact h1 rfl
 have J:q.lb≠b:=fun e=>by
  have j:=h.lk.1;rw[e,s.1]at j;cases j;exact h2 rfl
 have K:q.mb≠b:=fun e=>by
  obtain⟨O,⟨P,Q,G,-⟩,-⟩:=h.lk.2;rw[e,s.1]at G;cases G
 exact⟨h.ca.kf A (fun E M=>by rw[M];exact⟨s.2,D.1,D.2⟩),(A.block v (zd h.g) H).trans h.g,h.lk.keep A J K,h.o1,h.o2,h.o3⟩
theorem RunAt.box(h:RunAt own W r v q n p a md cl)(j:Bo own W b cs T)(h1:T≠102)(h2:T≠150)(D:T≠60)(E:b≠1/\b≠0)(s:Upd (fun G=>G=b) W W'):RunAt own W' r v q n p a md cl:=
 ⟨h.vo.box j h1 h2 E s,(s.block r (zd h.g) (fun e=>by
  have A:=h.g;rw[e,j.1]at A;cases A;exact D rfl)).trans h.g,h.o⟩
structure DidR(r v:Nat)(own own':Nat->Nat)(w w':World):Prop where
 upd:Upd (fun j=>own j≠0/\own j<16\/j=r\/j=v) w w'
 old:∀j,j<w.heap.size->own' j=own j
 new:∀j,w.heap.size<=j->own' j<16
 far:∀j,w'.heap.size<=j->own' j=0
theorem Did.toR(d:Did own own' w w'):DidR r v own own' w w':=⟨d.upd.mono (fun _ _ h=> .inl h),d.old,d.new,d.far⟩
theorem DidR.trans{v2:Nat}{A:Nat->Nat}{D:World}(d:DidR r v own own' w w')(e:DidR r v2 own' A w' D)(E:v2=v\/w.heap.size<=v2):DidR r v own A w D where
 upd:=d.upd.new e.upd (fun j s h=>by
  rcases h with h|h|h
  .exact .inl (by rw[<-d.old j s];exact h)
  .exact .inr (.inl h)
  .exact .inr (.inr oM))
 old:=fun j s=>(e.old j (d.upd.lt s)).trans (d.old j s)
 new:=fun j s=>by
  by_cases h:j<w'.heap.size
  .rw [e.old j h];exact d.new j s
  .exact e.new j oM
 far:=e.far
theorem DidR.mine{s:World}(d:DidR r v own own' w w')(A:Upd (fun j=>j=b) w' s)(E:w.heap.size<=b):DidR r v own own' w s:=
 ⟨d.upd.new A (fun i G e=>oM),d.old,d.new,fun j D=>d.far j (qXr A.size D)⟩
theorem DidR.at(s:Upd (fun h=>h=r\/h=v) w w')(A:∀h,w.heap.size<=h->own h=0):DidR r v own own w w':=
 ⟨s.mono (fun _ _ D=> .inr D),fun _ _=>rfl,fun h j=>by rw[A h j];decide,fun h j=>A h (qXr s.size j)⟩
theorem Bo.didR(h:Bo own W b cs t)(d:DidR r v own own' W W')(j:b≠r)(s:b≠v):Bo own' W' b cs t:=
 ⟨(d.upd.block b (zd h.1) (fun e=>e.elim (fun e=>e.1 h.2) (fun e=>e.elim j s))).trans h.1,(d.old b (zd h.1)).trans h.2⟩
theorem Bo.neV(h:Bo own W b cs t)(j:VolAt own W v q n p a md cl)(s:t≠102:=by decide):b≠v:=fun e=>by
 have h1:=h.1;rw[e,j.g]at h1;cases h1;exact s rfl
theorem DidR.run{u:Nat}(d:DidR v v own own' w w'):DidR u v own own' w w':=⟨d.upd.mono (fun _ _ h=>h.imp id (fun h=> .inr (h.elim id id))),d.old,d.new,d.far⟩
def VoR(own:Nat->Nat)(w:World)(v:Nat)(q:VoP)(n:CaN)(p:CaP)(a:CaS)(md:Int)(cl:Bool)(u:Value)(e:Ending)(w':World):Prop:=
 e=.returned u/\∃own',VolAt own' w' v q n p a md cl/\DidR v v own own' w w'
theorem vv.toR{e:Ending}(h:vv own w v q n p a md cl u e w'):VoR own w v q n p a md cl u e w':=⟨h.1,h.2.choose,h.2.choose_spec.1,h.2.choose_spec.2.toR⟩
theorem RunAt.vol(j:RunAt own w r v q n p a md cl)(A:VolAt own' w' v q n p a' md' cl')(d:DidR v v own own' w w'):RunAt own' w' r v q n p a' md' cl':=by
 have s:Bo own w r _ _:=⟨j.g,j.o⟩
 have h:=s.neV j.vo;exact⟨A,(s.didR d h h).1,(s.didR d h h).2⟩
def yg(Rq:Nat->VoP->Prop)(own:Nat->Nat)(w:World)(r v:Nat)(n:CaN)(cd m:Int)(L:List Bk)(a:CaS)(md:Int)(cl:Bool)(e:Ending)(w':World):Prop:=
 ∃own' v' q p u,e=.returned (.agg #[.int .i64 cd,.int .i64 m,u])/\RunAt own' w' r v' q n p a md cl/\DidR r v own own' w w'/\Rq v' q/\Ro w own' w' u L
theorem Ro.nil(w:World)(own:Nat->Nat)(W:World):Ro w own W (.slice none 0 0) []:=⟨Sl.nil _ _ _,fun g h=>by cases h⟩
theorem Ro.toRz(h:Ro w own W u F):Rz own W u F:=⟨h.1,fun g j=>(h.2 g j).2⟩
theorem Ro.low(h:Ro w' own W u F)(s:w.heap.size<=w'.heap.size):Ro w own W u F:=⟨h.1,fun g j=>⟨qXr s (h.2 g j).1,(h.2 g j).2⟩⟩
theorem Ro.one(h:Ro w own W u F):u.oneCell'=true:=by
 obtain⟨j,c,rfl⟩:=h.1.rd.jW;rfl
theorem yg.fin{Rq:Nat->VoP->Prop}{v0 j:Nat}(h:RunAt own' W r v q n p a md cl)(D:Bo own' W j cs 45)(G:w.heap.size<=j)(K:1<j/\0<j)(d:DidR r v0 own own' w W)(H:Rq v q)(s:Ro w own' W u L):
  yg Rq own w r v0 n cd m L a md cl (.returned (.agg #[.int .i64 cd,.int .i64 m,u])) (W.setCells j 0 [.int .i64 cd,.int .i64 m,u]):=by
 have A:=zo W j 0 [.int .i64 cd,.int .i64 m,u];refine⟨own',v,q,p,u,rfl,h.box D de de de ⟨oM,oM⟩ A,d.mine A G,H,s.1.keep A (fun g E e=>?_),s.2⟩;obtain⟨-,⟨rfl,-⟩|⟨J,M,O,Q,rfl,h2,-⟩⟩:=s.1
 .cases E
 .cases E;replace e:J=j:=e;rw[e,D.1]at h2;cases h2
theorem yA(h:u.oneCell'=true):∀x∈[Value.int .i64 cd,.int .i64 m,u],x.oneCell'=true:=by
 intro x hx;simp only[qzm,qzy,qYv]at hx;rcases hx with rfl|rfl|rfl
 .rfl
 .rfl
 .exact h
def zdW:List Value:=[.func (.func 41) #[] #[],.func (.func 42) #[] #[],.func (.func 42) #[] #[],.func (.func 43) #[] #[],.func (.func 44) #[] #[],
 .func (.func 45) #[] #[],.func (.func 46) #[] #[],.func (.func 47) #[] #[],.func (.func 48) #[] #[],.func (.func 49) #[] #[],
 .func (.func 50) #[] #[],.func (.func 51) #[] #[],.func (.func 52) #[] #[]]
def Rm:Array Value:=zdW.toArray
theorem zbx:(prog.info? 72).map (·.size)=some zdW.length:=kR
theorem ED(w:World):Calls prog 21 #[] w fun e w'=>e=.returned (.agg Rm)/\Below w.heap.size w w':=by
 go_enter func21,ntmps21
 go_wp2
 exact qYq (zq rfl _ _ w.heap.size 0 zdW _ rfl (zf (zc w _ rfl)) underlying72 rfl zbx) rfl ⟨rfl,(qxl _ w).alloc (qXp _) _⟩
theorem vy{W:World}{x y z:Value}(h:W.heap[b]?=some (.cells #[x,y,z] T (0,0))):W.there b 0 3:=fun j hj=>by
 rw[qXy,za h,zg h];exact⟨by rw[qxe oz];rfl,rfl⟩
abbrev xI(d fr m fi:Int)(kp:Value):Value:=.agg #[.int .i64 d,.int .i64 fr,.int .i64 m,.int .i64 fi,kp]
theorem EE(fd:Nat)(K:Value->World->Prop)(h:RunAt own w r v q n p a md cl)(aI:0<=d/\d<13)(j:d=1\/d=2->1<=m/\m<=64)(_:kp.oneCell'=true)
  (aJ:∀W:World,(Instr.index 72 (.agg Rm) (.int .i64 d)).run prog W=.ok (.func (.func fd) #[] #[]) W) (aK:∀ad w,(callFunc fd ad).run prog w=.ok (.enter fd ad) w)
  (ae:∀W,Upd (fun _=>False) w W->w.heap.size+2<=W.heap.size->Calls prog fd #[ptr r,xI d fr m fi kp] W fun e W'=>∃u,e=.returned (.agg #[.int .i64 cd,.int .i64 nn,u])/\u.oneCell'=true/\Upd (fun M=>M<w.heap.size\/W.heap.size<=M) W W'/\K u W')
  (af:∀W W' u,(∃cs,W.heap[w.heap.size+1]?=some (.cells cs 45 (0,0)))->Upd (fun M=>M=w.heap.size+1) W W'->K u W->K u W'):
  Calls prog 10 #[ptr r,xI d fr m fi kp] w fun e w'=>∃u,e=.returned (.agg #[.int .i64 cd,.int .i64 nn,u])/\K u w':=by
 obtain⟨ob,O⟩:=qqe (w.heap.size);obtain⟨w1,D⟩:=qqe ((w.alloc (.cells #[.int .i64 d,.int .i64 fr,.int .i64 m,.int .i64 fi,kp] 25)).alloc (.cells #[.int .i64 0,.int .i64 0,.slice none 0 0] 45));have E:Upd (fun _=>False) w w1:=by rw[D];exact((uur _ w).alloc _).alloc _
 have Q:w1.heap[ob]?=some (.cells [.int .i64 d,.int .i64 fr,.int .i64 m,.int .i64 fi,kp].toArray 25 (0,0)):=by rw[D,O];exact(qxk _ _ _ oe).trans (zc w _ rfl)
 have ag:w1.heap[ob+1]?=some (.cells #[.int .i64 0,.int .i64 0,.slice none 0 0] 45 (0,0)):=by rw[D,O];exact zc _ _ oe
 have h1:=h.new E;have a6:=za Q 0;have c2:=za Q 2;have aw:=za h1.g 5;simp at a6 c2 aw;have ah:=zf Q;have q1:¬d<0:=oM;have q2:¬d>=13:=oM;have R:=Y4 E ag ae af;have G:=Y2 D O;have ax:=underlying25;have ay:=wn;have ai:=qqh j;clear h h1 E Q ag ae af D O j;go_enter func10,ntmps10
 go_upto_region 3 with fail
 rw[<-G.o.1,<-G.o.2];have aL:=Y2 q1 q2;have az:((d==1)=true/\Hid (d=1))\/((d==1)=false/\(d==2)=true/\Hid (d=2))\/(d==1)=false/\(d==2)=false:=by
  by_cases U:d=1
  .exact .inl ⟨by simpa using U,qqh U⟩
  by_cases a7:d=2
  .exact .inr (.inl ⟨by simpa using U,by simpa using a7,qqh a7⟩)
  .exact .inr (.inr ⟨by simpa using U,by simpa using a7⟩)
 have A:Hid (w.heap.size=ob/\w1.heap.size=ob+2):=qqh ⟨G.o.2.symm,by rw[G.o.1,G.o.2];simp⟩;rcases az with⟨aj,a8⟩|⟨aj,aA,a8⟩|⟨aj,aA⟩
 all_goals (first
  |(have j:=ai.o (.inl a8.out);go_wp2_with fail;refine(Tr m w1 j.1 j.2).mono ?_;rintro e w' ⟨rfl,rfl⟩;clear j;go_upto_region 9 with fail)
  |(have j:=ai.o (.inr a8.out);go_wp2_with fail;refine(Tr m w1 j.1 j.2).mono ?_;rintro e w' ⟨rfl,rfl⟩;clear j;go_upto_region 9 with fail)
  |go_upto_region 9 with fail)
 all_goals
  refine qZd (S:=fun W=>W.rangeAt ob 0 [.int .i64 d,.int .i64 fr,.int .i64 m,.int .i64 fi,kp]/\W.cell? ⟨ob,0,none⟩=some (.int .i64 d)) kR (⟨by rw[qYk];exact ah,by rw[qYi];exact a6⟩) (fun ak=>?_);refine Wl.i [1,2,4] ?_;iterate 3 refine Wl.t ak ?_
  refine Wl.o ?_;refine Wl.l 5 (fun w h=>h.1) ax ay ak ?_;refine Wl.r 0 (fun H s=>?_);go_simp
  refine(ED _).mono ?_;rintro e V ⟨rfl,X⟩;have J:=(uur (fun _=>False) _).drew.trans (uuo (S:=fun _=>False) X);have am:=J.range ah id;have an:=J.jU a6 id;have aB:=qqh (R.o.2.2.1 V (R.o.1.trans J) (by rw[A.out.1,<-A.out.2];exact X.size));have ao:=J.jV R.o.2.1;have aC:ob+2<=V.heap.size:=by rw[<-A.out.2];exact X.size
  clear X J;refine s.o _ _ (⟨am,an⟩) (fun aD=>?_);clear s H;refine Wl.i [3] (Wl.t aD (Wl.o ?_));refine Wl.r 6 (fun H s=>?_);go_simp
  refine aB.o.mono ?_;rintro e aE ⟨u,rfl,E,Y,ap⟩;have aa:¬(ob<w.heap.size\/V.heap.size<=ob):=by have:=A.out.1;omega
  have aq:¬(ob+1<w.heap.size\/V.heap.size<=ob+1):=by have:=A.out.1;omega
  have ar:=Y.range am aa;have au:=Y.jU an aa;have ab:=(Y.block (ob+1) (zd ao) aq).trans ao;have Z:=zo aE (ob+1) 0 [.int .i64 cd,.int .i64 nn,u];have aF:=qqh (R.o.2.2.2 _ _ u ⟨_,(by rw[A.out.1];exact ab)⟩ (by rw[A.out.1];exact Z) ap);have aG:=Z.range ar (fun e=>by replace e:ob=ob+1:=e;omega);have aH:=Z.jU au (fun e=>by replace e:ob=ob+1:=e;omega);have av:=vy ab;clear Y ap ab Z aa aq aC;refine s.o _ _ (⟨ar,au⟩) (fun aM=>?_);clear s H;refine Wl.r 7 (fun H s=>?_);rw[if_pos oA];refine qZe _ _ _ rfl _ _ [.int .i64 cd,.int .i64 nn,u].toArray rfl rfl av zO (qYo (yA E)) ?_;simp only[Act.put,qXd];refine s.o _ _ (⟨aG,aH⟩) (fun aN=>?_);clear s H;refine Wl.d ?_;go_wp2
  exact qYq (zq rfl _ _ (ob+1) 0 [.int .i64 cd,.int .i64 nn,u] _ rfl (qYl _ _ _ _ av) underlying45 rfl zO) rfl ⟨u,rfl,aF.o⟩
def Sq(v:Nat)(q:VoP)(v':Nat)(q':VoP):Prop:=v'=v/\q'=q
theorem yg.to{Rq s:Nat->VoP->Prop}{e:Ending}(A:yg Rq own w r v n cd m L a md cl e w')(D:∀h j,Rq h j->s h j):yg s own w r v n cd m L a md cl e w':=by
 obtain⟨own',h,j,E,u,h1,h2,G,H,J⟩:=A;exact⟨own',h,j,E,u,h1,h2,G,D _ _ H,J⟩
theorem zdX{Rq:Nat->VoP->Prop}{X:Prop}(fd:Nat)(_hRq:∀j s,Rq j s->j=v\/w.heap.size<=j)(h:RunAt own w r v q n p a md cl)(O:0<=d/\d<13)(Q:d=1\/d=2->1<=m/\m<=64)(R:kp.oneCell'=true)
  (U:∀W:World,(Instr.index 72 (.agg Rm) (.int .i64 d)).run prog W=.ok (.func (.func fd) #[] #[]) W) (V:∀H w,(callFunc fd H).run prog w=.ok (.enter fd H) w)
  (Y:∀W,Upd (fun _=>False) w W->Calls prog fd #[ptr r,xI d fr m fi kp] W fun e W'=>yg Rq own W r v n cd nn L a' md' cl' e W'/\X):
  Calls prog 10 #[ptr r,xI d fr m fi kp] w fun e w'=>yg Rq own w r v n cd nn L a' md' cl' e w'/\X:=by
 have a8:=zd h.g;have aa:=zd h.vo.g;have ab:=h.vo.ca.nib.lt;have ad:=h.vo.ca.tur.lt;refine(EE (cd:=cd) (nn:=nn) fd (fun u W'=>∃own' j s A,RunAt own' W' r j s n A a' md' cl'/\DidR r v own own' w W'/\Rq j s/\Ro w own' W' u L/\own' (w.heap.size+1)=0/\X) h O Q R U V (fun W D ae=>?_) ?_).mono ?_
 .refine (Y W D).mono ?_;rintro e W' ⟨⟨own',j,s,A,u,rfl,E,d,G,z⟩,hx⟩;exact⟨u,rfl,z.one,d.upd.mono (fun Z _ e=> .inl (by
   rcases e with e|e|e
   .exact Nat.lt_of_not_le fun a6=>e.1 (h.vo.ca.far Z a6)
   .omega
   .omega)),own',j,s,A,E,(h.vo.ca.j3 D).toR.trans d (.inl rfl),G,z.low D.size,(d.old _ oM).trans (h.vo.ca.far _ oM),hx⟩
 .rintro W W' u ⟨cs,J⟩ D ⟨own',j,s,A,E,d,G,z,K,hx⟩;refine⟨own',j,s,A,E.box ⟨J,K⟩ de de de ⟨oM,oM⟩ D,d.mine D (qXq _),G,⟨z.1.keep D (fun g M e=>?_),z.2⟩,K,hx⟩;obtain⟨-,⟨rfl,-⟩|⟨a7,af,ag,ah,rfl,h2,-⟩⟩:=z.1
  .cases M
  .cases M;replace e:a7=w.heap.size+1:=e;rw[e,J]at h2;cases h2
 .rintro e w' ⟨u,rfl,own',j,s,A,E,d,G,z,-,hx⟩;exact⟨⟨own',j,s,A,u,rfl,E,d,G,z⟩,hx⟩
theorem qk{Rq:Nat->VoP->Prop}(fd:Nat)(A:∀j D,Rq j D->j=v\/w.heap.size<=j)(h:RunAt own w r v q n p a md cl)(E:0<=d/\d<13)(G:d=1\/d=2->1<=m/\m<=64)(H:kp.oneCell'=true)
  (J:∀W:World,(Instr.index 72 (.agg Rm) (.int .i64 d)).run prog W=.ok (.func (.func fd) #[] #[]) W) (K:∀s w,(callFunc fd s).run prog w=.ok (.enter fd s) w)
  (M:∀W,Upd (fun _=>False) w W->Calls prog fd #[ptr r,xI d fr m fi kp] W (yg Rq own W r v n cd nn L a' md' cl')):
  Calls prog 10 #[ptr r,xI d fr m fi kp] w (yg Rq own w r v n cd nn L a' md' cl'):=
 (zdX (X:=True) fd A h E G H J K (fun W O=>(M W O).mono fun _ _ h=>⟨h,trivial⟩)).mono fun _ _ h=>h.1
end
section
variable{n:CaN}{a:CaS}
theorem EF{m:Nat}(h:k<=m):needN k<=needN m:=by unfold needN;omega
end
section
variable{own own':Nat->Nat}{w w' W W':World}{r v:Nat}{q:VoP}{n:CaN}{p:CaP}{a a':CaS}{md md':Int}{cl cl':Bool}
theorem YE(_:kp.oneCell'=true)(w:World):Calls prog 77 #[xI d fr m fi kp] w fun e w'=>e=.returned (ut fr m)/\Below w.heap.size w w':=by
 go_enter func77,ntmps77
 go_wp2
 exact qYq (zq rfl _ _ (w.heap.size+1) 0 [.int .i64 fr,.int .i64 m] _ rfl (zf (zc _ _ oe)) underlying50 rfl zV) rfl ⟨rfl,((qxl _ w).alloc (qXp _) _).alloc oe _⟩
def EG(own:Nat->Nat)(w:World)(v:Nat)(q:VoP)(n:CaN)(p:CaP)(a:CaS)(md:Int)(cl:Bool)(cd:Int)(L:List Bk)(e:Ending)(w':World):Prop:=
 ∃u own',e=.returned (.tuple #[u,.int .i64 cd])/\VolAt own' w' v q n p a md cl/\Did own own' w w'/\Ro w own' w' u L
theorem WB(h:VolAt own W v q n p a md false)(j:inS n.bl f N)(s:∀k,k<N->(CaS.rdC n f a k).2=0):
  Calls prog 76 #[ptr v,ut f N] W (EG own W v q n p (CaS.rdN n f a N) md false 0 (CaS.rdL n f a N)):=
 (zbu h j s).mono fun _ _ ⟨u,own',A,D,d,E⟩=>⟨u,own',A,D,d,E⟩
theorem YF(h:RunAt own w r v q n p a md cl)(an:kp.oneCell'=true)(Z:∀own' W',VolAt own' W' v q n p a md cl->Calls prog 76 #[ptr v,ut fr m] W' (EG own' W' v q n p a' md' cl' cd L)):
  Calls prog 41 #[ptr r,xI d fr m fi kp] w (yg (Sq v q) own w r v n cd 0 L a' md' cl'):=by
 obtain⟨ob,K⟩:=qqe (w.heap.size);obtain⟨w1,G⟩:=qqe ((w.alloc (.cells #[.int .i64 d,.int .i64 fr,.int .i64 m,.int .i64 fi,kp] 25)).alloc (.cells #[.int .i64 0,.int .i64 0,.slice none 0 0] 45));have H:Upd (fun _=>False) w w1:=by rw[G];exact((uur _ w).alloc _).alloc _
 have a6:w1.heap[ob]?=some (.cells [.int .i64 d,.int .i64 fr,.int .i64 m,.int .i64 fi,kp].toArray 25 (0,0)):=by rw[G,K];exact(qxk _ _ _ oe).trans (zc w _ rfl)
 have a7:Bo own w1 (ob+1) #[.int .i64 0,.int .i64 0,.slice none 0 0] 45:=⟨by rw[G,K];exact zc _ _ oe,h.vo.ca.far _ oM⟩
 have h1:=h.new H;have a8:=h.vo.ca.j3 H;have M:=za h1.g 5;simp at M;have O:=zf a6;have aa:1<ob+1/\0<ob+1:=by have:=h.vo.ca.nib.lt;have:=h.vo.ca.tur.lt;omega
 have ab:w.heap.size<=ob+1:=oM;have s:=Y6 h1 a8 a7 aa ab Z;have ad:=Y2 G K;have ao:=qqh (h.vo.ca.far ob oM);have ap:=underlying25;have aq:=wn;clear h h1 a8 a7 H a6 G K aa ab Z;go_enter func41,ntmps41
 go_upto_region 1 with fail
 rw[<-ad.o.1,<-ad.o.2];refine qZd (S:=fun W=>W.cell? ⟨r,5,none⟩=some (ptr v)/\W.rangeAt ob 0 [.int .i64 d,.int .i64 fr,.int .i64 m,.int .i64 fi,kp]) kR (⟨by rw[qYi];exact M,by rw[qYk];exact O⟩) (fun Q=>?_);refine Wl.i [0,1,2,3] ?_;iterate 4 refine Wl.t Q ?_
 refine Wl.o ?_;refine Wl.l 4 (fun w h=>h.2) ap aq Q ?_;refine Wl.r 5 (fun D j=>?_);go_simp
 refine(YE an _).mono ?_;rintro e ay ⟨rfl,ae⟩;have J:=(uur (fun _=>False) w1).drew.trans (uuo (S:=fun _=>False) ae);have af:=J.jU M id;have R:=J.range O id;have ar:=qqh (s.o.2.2.2.2.2 _ _ (s.o.1.new J).vo);have U:=qqh J;clear ae J;refine j.o _ _ (⟨af,R⟩) (fun au=>?_);clear j D;refine Wl.r 6 (fun D j=>?_);go_simp
 refine ar.o.mono ?_;rintro e az ⟨u,aA,rfl,ag,A,z4⟩;have E:=(s.o.1.new U.o).vol ag A.toR;have V:=za E.g 5;simp at V;have ah:=A.upd.range R (fun e=>e.1 ao.o);have av:=Y4 E ((s.o.1.vo.ca.j3 U.o).trans A) A z4;clear E ag A z4;refine j.o _ _ (⟨V,ah⟩) (fun X=>?_);clear j D;refine Wl.i [7,8,9] ?_;iterate 3 refine Wl.t X ?_
 refine Wl.o ?_;refine Wl.r 10 (fun D j=>?_);go_simp
 refine j.o _ _ (X) (fun ai=>?_);clear j D;refine Wl.r 11 (fun D j=>?_);go_simp
 refine j.o _ _ (ai) (fun aw=>?_);clear j D;refine Wl.d ?_;obtain⟨E,A,-,z4⟩:=av.o;have Y:=s.o.2.2.1.did A;have ax:=qqh (yg.fin (Rq:=Sq v q) (v0:=v) (cd:=cd) (m:=0) E Y (w:=w) s.o.2.2.2.2.1 s.o.2.2.2.1 (s.o.2.1.trans A).toR ⟨rfl,rfl⟩ (z4.low (qXr s.o.2.1.upd.size U.o.size)));have aj:=vy Y.1;have H:=z4.one;obtain⟨ak,am,rfl⟩:=z4.1.rd.jW;clear E A z4 Y Q au X ai aw V ah af R M O;go_wp2_with (first
  |(refine qZc rfl _ _ _ rfl _ _ [.int .i64 cd,.int .i64 0,.slice ak _ am].toArray rfl rfl aj zO (qYo (yA H)) ?_)
  |fail)
 exact qYq (zq rfl _ _ (ob+1) 0 [.int .i64 cd,.int .i64 0,.slice ak _ am] _ rfl (qYl _ _ _ _ aj) underlying45 rfl zO) rfl ax.o
end
section
variable{own own':Nat->Nat}{w w' W W':World}{v lb mb bl:Nat}{q:VoP}{n:CaN}{p:CaP}{a a':CaS}{md:Int}{cl:Bool}{f m:Int}
theorem Rn(h:vj w lb mb bl)(H:bl<=4096)(E:¬inS bl f m):Calls prog 137 #[.pointer (some ⟨lb,0,none⟩),ut f m] w fun e w'=>e=.returned (.int .i64 10)/\Below w.heap.size w w':=by
 obtain⟨w1,j⟩:=qqe (w.alloc (.cells #[.int .i64 f,.int .i64 m] 50));have A:=qqu j;have D:=qqg j;have K:w1.cell? ⟨w.heap.size,0,none⟩=some (.int .i64 f):=za D 0;have c1:w1.cell? ⟨w.heap.size,1,none⟩=some (.int .i64 m):=za D 1;have c2:w1.cell? ⟨lb,0,none⟩=some (.int .i64 (bl:Int)):=za (h.new A).1 0;have G:=Y2 j A;have J:f<0\/¬f<0/\m<1\/¬f<0/\¬m<1/\(bl:Int)<m\/¬f<0/\¬m<1/\¬(bl:Int)<m/\IntKind.i64.wrap ((bl:Int)-m)=(bl:Int)-m/\(bl:Int)-m<f:=by
  unfold inS at E;by_cases h1:f<0
  .exact .inl h1
  by_cases h2:m<1
  .exact .inr (.inl ⟨h1,h2⟩)
  by_cases s:(bl:Int)<m
  .exact .inr (.inr (.inl ⟨h1,h2,s⟩))
  .exact .inr (.inr (.inr ⟨h1,h2,s,qxt _ oM,oM⟩))
 clear h j A D E H;rcases J with h1|⟨h1,h2⟩|⟨h1,h2,s⟩|⟨h1,h2,s,M,O⟩
 all_goals
  go_enter func137,ntmps137
  go_upto_region 1 with fail
  rw[<-G.o.1]
  go_quiet(fail)
  go_wp2
  go_ret
  exact⟨rfl,zN (Upd.below G.o.2) _⟩
theorem Uf(A:vj w lb mb bl)(D:bl<=4096)(E:¬inS bl f m):Calls prog 216 #[.pointer (some ⟨lb,0,none⟩),ut f m] w fun e w'=>e=.returned (.int .i64 10)/\Below w.heap.size w w':=by
 obtain⟨w1,h⟩:=qqe (w.alloc (.cells #[.int .i64 f,.int .i64 m] 50));have j:=qqu h;have G:=qqg h;have H:=zf G;have K:=qqh (Rn (A.new j) D E);have s:=Y2 h j;have M:=zV;clear A h j G E D;go_enter func216,ntmps216
 go_upto_region 1 with fail
 rw[<-s.o.1];go_wp2_with (first
  |(refine qZa rfl _ _ rfl _ _ rfl _ _ H underlying50 rfl M ?_)
  |fail)
 refine K.o.mono ?_;rintro e P ⟨rfl,J⟩;have O:=qqh (Below.trans (Upd.below s.o.2) (J.mono s.o.2.size));clear J H;go_wp2
 go_ret
 exact⟨rfl,O.o⟩
theorem uq(h:VolAt own w v q n p a md cl)(j:¬inS n.bl f m):Calls prog 146 #[ptr v,ut f m] w fun e w'=>e=.returned (.int .i64 10)/\Below w.heap.size w w':=
 Wy h fun _ s=>Uf s h.ca.ok.b2 j
theorem Ug(h:VolAt own w v q n p a md cl)(G:¬inS n.bl f m):Calls prog 141 #[ptr v,ut f m] w fun e w'=>e=.returned (.bool false)/\Below w.heap.size w w':=by
 obtain⟨w1,j⟩:=qqe (w.alloc (.cells #[.int .i64 f,.int .i64 m] 50));have s:=qqu j;have H:=qqg j;have h1:=h.new s;have c:=za h1.g 0;simp[tj]at c;have O:=qqh (xH h1.ca);have Q:=h.ca.ok.b2;have R:¬0<=f\/0<=f/\¬1<=m\/0<=f/\1<=m/\¬f<=(n.bl:Int)\/0<=f/\1<=m/\f<=(n.bl:Int)/\IntKind.i64.wrap ((n.bl:Int)-f)=(n.bl:Int)-f/\¬m<=(n.bl:Int)-f:=by
  unfold inS at G;by_cases h1:0<=f
  .by_cases h2:1<=m
   .by_cases J:f<=(n.bl:Int)
    .exact .inr (.inr (.inr ⟨h1,h2,J,qxt _ oM,oM⟩))
    .exact .inr (.inr (.inl ⟨h1,h2,J⟩))
   .exact .inr (.inl ⟨h1,h2⟩)
  .exact .inl h1
 have Y:=yO (n.id:Int) (n.bl:Int) (n.sl:Int) (n.jo:Int) (n.pa:Int) (n.lo:Int) (n.ba:Int);have A:=Y3 j s H;clear h j s H h1 Q G;rcases R with q1|⟨q1,q2⟩|⟨q1,q2,U⟩|⟨q1,q2,U,Z,a6⟩
 all_goals
  go_enter func141,ntmps141
  go_upto_region 1 with fail
  rw[<-A.o.1];go_wp2_with fail
  refine O.o.mono ?_;rintro e a7 ⟨rfl,K⟩;have D:=qqb K;have E:=D.jV A.o.2.2;have V:=za E 0;have X:=za E 1;simp at V X;have M:=qqh (A.o.2.1.trans D);clear K D E c;go_wp2
  go_ret
  first
   |exact⟨rfl,M.o.below⟩
   |exact⟨(by show Ending.returned (.bool (decide (m<=(n.bl:Int)-f)))=_;rw[decide_eq_false oM]),M.o.below⟩
theorem Uh(h:VolAt own W v q n p a md false)(G:¬inS n.bl f m):Calls prog 76 #[ptr v,ut f m] W (EG own W v q n p a md false 10 []):=by
 obtain⟨E,A⟩:=qqe (W.heap.size);obtain⟨w1,j⟩:=qqe ((W.alloc (.cells #[ptr v] 47)).alloc (.cells #[.int .i64 f,.int .i64 m] 50));have D:Upd (fun _=>False) W w1:=by rw[j];exact((uur _ W).alloc _).alloc _
 have H:w1.heap[E]?=some (.cells #[ptr v] 47 (0,0)):=by rw[j,A];exact(qxk _ _ _ oe).trans (zc W _ rfl)
 have J:w1.heap[E+1]?=some (.cells #[.int .i64 f,.int .i64 m] 50 (0,0)):=by rw[j,A];exact zc _ _ oe
 have V:w1.cell? ⟨E,0,none⟩=some (ptr v):=za H 0;have K:=zf J;have M:=qqh (zZ (h.new D));have O:=qqh (Ug (h.new D) G);have s:=Y4 h D j A;have X:=underlying50;have Y:=zV;clear h G j D H J A;go_enter func76,ntmps76
 go_upto_region 1 with fail
 rw[<-s.o.2.2.1,<-s.o.2.2.2];go_wp2_with fail
 refine M.o.mono ?_;rintro e Z ⟨rfl,Q⟩;rw[Q];clear Q;go_wp2_with (first
  |(refine qZa rfl _ _ rfl _ _ rfl _ _ K X rfl Y ?_)
  |fail)
 refine O.o.mono ?_;rintro e a6 ⟨rfl,R⟩;have U:=qqh (s.o.2.1.trans (uuo (S:=fun _=>False) R));clear R V K M O;go_wp2
 go_ret2
 exact⟨_,own,rfl,s.o.1.new U.o,s.o.1.ca.j3 U.o,Ro.nil _ _ _⟩
theorem WC{ab:Bool}(h:VolAt own W v q n p a md false)(K:¬inS n.bl f L.length)(h1:1<=L.length)(h2:L.length<=64)(M:Rz own W lv L):
  Calls prog 78 #[ptr v,.int .i64 f,.bool ab,lv] W (vv own W v q n p a md false (.int .i64 10)):=by
 obtain⟨j,A⟩:=qqe (W.heap.size);obtain⟨w1,s⟩:=qqe (((W.alloc (.cells #[ptr v] 47)).alloc (.cells #[.int .i64 f] 3)).alloc (.cells #[lv] 43));have E:Upd (fun _=>False) W w1:=by rw[s];exact(((uur _ W).alloc _).alloc _).alloc _
 have O:w1.heap.size=j+3:=by rw[s,A];simp
 have Q:w1.heap[j]?=some (.cells #[ptr v] 47 (0,0)):=by rw[s,A];exact(((uur (fun _=>False) _).alloc _).alloc _).jV (zc W _ rfl)
 have R:w1.heap[j+1]?=some (.cells #[.int .i64 f] 3 (0,0)):=by rw[s,A];exact((uur (fun _=>False) _).alloc _).jV (zc _ _ oe)
 have U:w1.heap[j+2]?=some (.cells #[lv] 43 (0,0)):=by rw[s,A];exact zc _ _ oe
 obtain⟨V,G⟩:=qqe (w1.alloc (.cells #[.int .i64 f,.int .i64 (L.length:Int)] 50));have H:=qqu G;have X:V.heap[j+3]?=some (.cells #[.int .i64 f,.int .i64 (L.length:Int)] 50 (0,0)):=by rw[G];exact zc _ _ O.symm
 have Y:=qqh (zZ (h.new E));have Z:=qqh (uq ((h.new E).new H) K);have a6:=zf X;have a7:w1.cell? ⟨j,0,none⟩=some (ptr v):=za Q 0;have ad:w1.cell? ⟨j+1,0,none⟩=some (.int .i64 f):=za R 0;have ae:w1.cell? ⟨j+2,0,none⟩=some lv:=za U 0;have af:V.cell? ⟨j,0,none⟩=some (ptr v):=H.jU a7 id;have J:=Y2 h (E.trans H);have D:=Y3 s G A;have ag:=underlying50;have ah:=zV;obtain⟨ai,aj,rfl⟩:=M.1.rd.jW;have q1:¬(L.length:Int)=0:=oM;have q2:((L.length:Int)==0)=false:=by simpa using q1
 clear h K s E G H Q R U X M A O h1 h2;go_enter func78,ntmps78
 go_upto_region 1 with fail
 rw[<-D.o.1,<-D.o.2.2];go_wp2_with fail
 refine Y.o.mono ?_;rintro e w' ⟨rfl,rfl⟩;go_upto_region 7 with fail
 rw[show w'.heap.size=j+3 from by rw[D.o.1,D.o.2.2];simp,<-D.o.2.1];rw[show j+1+1=j+2 from rfl];clear a7 ad ae;go_wp2_with (first
  |(refine qZa rfl _ _ rfl _ _ rfl _ _ a6 ag rfl ah ?_)
  |fail)
 refine Z.o.mono ?_;rintro e ak ⟨rfl,a8⟩;have aa:=qqh (J.o.2.trans (uuo (S:=fun _=>False) a8));clear a8 af a6 Y Z;go_wp2
 go_ret
 exact⟨rfl,own,J.o.1.new aa.o,J.o.1.ca.j3 aa.o⟩
theorem sJ(h:VolAt own W v q n p a md false)(D:¬inS n.bl f m):Calls prog 79 #[ptr v,ut f m] W (vv own W v q n p a md false (.int .i64 10)):=by
 obtain⟨w1,j⟩:=qqe (W.alloc (.cells #[.int .i64 f,.int .i64 m] 50));have s:=qqu j;have E:=qqg j;have G:=zf E;have H:=qqh (zZ (h.new s));have J:=qqh (uq (h.new s) D);have P:=underlying50;have Q:=zV;have A:=Y3 h s j;clear h D j s E;go_enter func79,ntmps79
 go_upto_region 1 with fail
 rw[<-A.o.2.2];go_wp2_with fail
 refine H.o.mono ?_;rintro e w' ⟨rfl,K⟩;rw[K];clear K;go_wp2_with (first
  |(refine qZa rfl _ _ rfl _ _ rfl _ _ G P rfl Q ?_)
  |fail)
 refine J.o.mono ?_;rintro e R ⟨rfl,M⟩;have O:=qqh (A.o.2.1.trans (uuo (S:=fun _=>False) M));clear M G H J;go_wp2
 go_ret
 exact⟨rfl,own,A.o.1.new O.o,A.o.1.ca.j3 O.o⟩
theorem Ui(h:VolAt own W v q n p a md false)(A:¬(0<=fr/\fr<=2)):Calls prog 85 #[ptr v,.int .i64 fr] W (vv own W v q n p a md false (.int .i64 1)):=by
 have D:=qqh (zZ h);have j:=qqh h;have E:¬fr=0:=oM;have q1:¬fr=1:=oM;have q2:¬fr=2:=oM;have G:(fr==0)=false:=by simpa using E
 have H:(fr==1)=false:=by simpa using q1
 have J:(fr==2)=false:=by simpa using q2
 clear h A;go_enter func85,ntmps85
 go_wp2_with fail
 refine D.o.mono ?_;rintro e w' ⟨rfl,s⟩;rw[s];clear s;go_wp2
 go_ret
 exact⟨rfl,own,j.o,Did.refl j.o.ca.far⟩
end
theorem ur{P:Prop}(h:P:=by
 obtain⟨ob,hob⟩:=qqe (w.heap.size);obtain⟨w1,hw1⟩:=qqe ((w.alloc (.cells #[.int .i64 d,.int .i64 fr,.int .i64 m,.int .i64 fi,kp] 25)).alloc (.cells #[.int .i64 0,.int .i64 0,.slice none 0 0] 45));have hu1:Upd (fun _=>False) w w1:=by rw[hw1];exact((uur _ w).alloc _).alloc _
 have b1:Bo own w1 (ob+1) #[.int .i64 0,.int .i64 0,.slice none 0 0] 45:=⟨by rw[hw1,hob];exact zc _ _ oe,h.vo.ca.far _ oM⟩
 have h1:=h.new hu1;have c5:=za h1.g 5;simp at c5;have hn:1<ob+1/\0<ob+1:=by have:=h.vo.ca.nib.lt;have:=h.vo.ca.tur.lt;omega
 have hr:r<ob:=by rw[hob];exact zd h.g
 have HV:=qqh (hV w1 h1.vo);have H:=Y6 h1 (h.vo.ca.j3 hu1) b1 hn hr hob;have HW:=Y2 hw1 hob;clear h h1 b1 hu1 hw1 hob hn hr hV;go_enter q1,q2
 go_upto_region 1 with fail
 rw[<-HW.o.1,<-HW.o.2];go_wp2_with fail
 refine HV.o.mono ?_;rintro e w4 ⟨rfl,own4,hv4,d4⟩;obtain⟨h1,d1,b1,hn,hr,hob⟩:=H.o;have b4:=b1.didR d4 (b1.neV h1.vo) (b1.neV h1.vo);have HF:=qqh (yg.fin (Rq:=Sq v q) (v0:=v) (cd:=cd) (m:=0) (h1.vol hv4 d4) b4 (w:=w) oM hn (d1.toR.trans d4.run (.inl rfl)) ⟨rfl,rfl⟩ (Ro.nil _ own4 w4));have tA:=vy b4.1;clear h1 d1 b1 hn hr hob hv4 d4 b4 c5;go_wp2_with (first
  |(refine qZc rfl _ _ _ rfl _ _ [.int .i64 cd,.int .i64 0,.slice none 0 0].toArray rfl rfl tA zO (qYo (yA rfl)) ?_)
  |fail)
 exact qYq (zq rfl _ _ (ob+1) 0 [.int .i64 cd,.int .i64 0,.slice none 0 0] _ rfl (qYl _ _ _ _ tA) underlying45 rfl zO) rfl HF.o):P:=h
section
variable{own own':Nat->Nat}{w w' W W':World}{r v:Nat}{q:VoP}{n:CaN}{p:CaP}{a a':CaS}{md md':Int}{cl cl':Bool}{d fr m fi cd:Int}{kp:Value}
namespace fFlush
theorem q1:type_of% @func44:= @func44
theorem q2:type_of% @ntmps44:= @ntmps44
end fFlush
open fFlush in
theorem EH(h:RunAt own w r v q n p a md cl)(_:kp.oneCell'=true)(hV:∀W,VolAt own W v q n p a md cl->Calls prog 80 #[ptr v] W (VoR own W v q n p a' md' cl' (.int .i64 cd))):
  Calls prog 44 #[ptr r,xI d fr m fi kp] w (yg (Sq v q) own w r v n cd 0 [] a' md' cl'):=ur
namespace fTick
theorem q1:type_of% @func47:= @func47
theorem q2:type_of% @ntmps47:= @ntmps47
end fTick
open fTick in
theorem zby(h:RunAt own w r v q n p a md cl)(_:kp.oneCell'=true)(hV:∀W,VolAt own W v q n p a md cl->Calls prog 83 #[ptr v] W (VoR own W v q n p a' md' cl' (.int .i64 cd))):
  Calls prog 47 #[ptr r,xI d fr m fi kp] w (yg (Sq v q) own w r v n cd 0 [] a' md' cl'):=ur
namespace fDetach
theorem q1:type_of% @func50:= @func50
theorem q2:type_of% @ntmps50:= @ntmps50
end fDetach
open fDetach in
theorem Rp(h:RunAt own w r v q n p a md cl)(_:kp.oneCell'=true)(hV:∀W,VolAt own W v q n p a md cl->Calls prog 86 #[ptr v] W (VoR own W v q n p a' md' cl' (.int .i64 cd))):
  Calls prog 50 #[ptr r,xI d fr m fi kp] w (yg (Sq v q) own w r v n cd 0 [] a' md' cl'):=ur
theorem Tu(h:RunAt own w r v q n p a md cl)(_hkp:kp.oneCell'=true)(Z:∀W,VolAt own W v q n p a md cl->Calls prog 85 #[ptr v,.int .i64 fr] W (VoR own W v q n p a' md' cl' (.int .i64 cd))):
  Calls prog 49 #[ptr r,xI d fr m fi kp] w (yg (Sq v q) own w r v n cd 0 [] a' md' cl'):=by
 obtain⟨ob,s⟩:=qqe (w.heap.size);obtain⟨w1,G⟩:=qqe ((w.alloc (.cells #[.int .i64 d,.int .i64 fr,.int .i64 m,.int .i64 fi,kp] 25)).alloc (.cells #[.int .i64 0,.int .i64 0,.slice none 0 0] 45));have Q:Upd (fun _=>False) w w1:=by rw[G];exact((uur _ w).alloc _).alloc _
 have j:Bo own w1 ob [.int .i64 d,.int .i64 fr,.int .i64 m,.int .i64 fi,kp].toArray 25:=⟨by rw[G,s];exact(qxk _ _ _ oe).trans (zc w _ rfl),h.vo.ca.far _ oM⟩
 have D:Bo own w1 (ob+1) #[.int .i64 0,.int .i64 0,.slice none 0 0] 45:=⟨by rw[G,s];exact zc _ _ oe,h.vo.ca.far _ oM⟩
 have h1:=h.new Q;have a6:=za h1.g 5;have E:=j.cell 1;simp at a6 E;have aq:=zf j.1;have H:1<ob+1/\0<ob+1:=by have:=h.vo.ca.nib.lt;have:=h.vo.ca.tur.lt;omega
 have M:r<ob:=by rw[s];exact zd h.g
 have R:=(uur (fun _=>False) w1).drew;have ah:=qqh (Z _ (h1.new R).vo);have O:=qqh R;clear R;have ai:=Y7 h1 (h.vo.ca.j3 Q) j D H M s;have a7:=Y2 G s;have ar:=underlying25;have au:=wn;clear h h1 j D Q G s H M Z;go_enter func49,ntmps49
 go_upto_region 1 with fail
 rw[<-a7.o.1,<-a7.o.2];refine qZd (S:=fun W=>W.cell? ⟨r,5,none⟩=some (ptr v)/\W.cell? ⟨ob,1,none⟩=some (.int .i64 fr)) kR (⟨by rw[qYi];exact a6,by rw[qYi];exact E⟩) (fun aj=>?_);refine Wl.i [0,1,2,3,4,5] ?_;iterate 6 refine Wl.t aj ?_
 refine Wl.o ?_;refine Wl.r 6 (fun J A=>?_);go_simp
 refine ah.o.mono ?_;rintro e a8 ⟨rfl,ak,aa,K⟩;obtain⟨h1,ab,j,D,H,M,s⟩:=ai.o;have U:=(h1.new O.o).vol aa K;have V:=za U.g 5;have ad:=j.keep O.o id;have ae:=D.keep O.o id;have af:=ad.didR K (j.neV h1.vo) (j.neV h1.vo);have E:=ae.didR K (D.neV h1.vo) (D.neV h1.vo);simp at V;have am:=qqh (yg.fin (Rq:=Sq v q) (v0:=v) (cd:=cd) (m:=0) U E (w:=w) oM H ((ab.trans (h1.vo.ca.j3 O.o)).toR.trans K.run (.inl rfl)) ⟨rfl,rfl⟩ (Ro.nil _ ak a8));have ag:=vy E.1;have X:=zo a8 (ob+1) 0 [.int .i64 cd,.int .i64 0,.slice none 0 0];have an:=X.jU V (fun e=>by replace e:r=ob+1:=e;omega);have Y:=af.cell 1;simp at Y;have ao:=X.jU Y (fun e=>by replace e:ob=ob+1:=e;omega);clear h1 ab j D H M s U aa K ad ae af E X;refine A.o _ _ (⟨V,Y⟩) (fun ap=>?_);clear A J;refine Wl.r 7 (fun J A=>?_);go_simp
 refine A.o _ _ (ap) (fun av=>?_);clear A J;refine Wl.r 8 (fun J A=>?_);rw[if_pos oA];refine qZe _ _ _ rfl _ _ [.int .i64 cd,.int .i64 0,.slice none 0 0].toArray rfl rfl ag zO (qYo (yA rfl)) ?_;simp only[Act.put,qXd];refine A.o _ _ (⟨an,ao⟩) (fun aw=>?_);clear A J;refine Wl.d ?_;go_wp2
 exact qYq (zq rfl _ _ (ob+1) 0 [.int .i64 cd,.int .i64 0,.slice none 0 0] _ rfl (qYl _ _ _ _ ag) underlying45 rfl zO) rfl am.o
theorem WD{X:Prop}(h:RunAt own w r v q n p a md cl)(ao:kp.oneCell'=true)(a7:∀W,VolAt own W v q n p a md cl->Calls prog 79 #[ptr v,ut fr m] W fun e W'=>VoR own W v q n p a' md' cl' (.int .i64 cd) e W'/\X):
  Calls prog 43 #[ptr r,xI d fr m fi kp] w fun e w'=>yg (Sq v q) own w r v n cd 0 [] a' md' cl' e w'/\X:=by
 obtain⟨ob,A⟩:=qqe (w.heap.size);obtain⟨w1,G⟩:=qqe ((w.alloc (.cells #[.int .i64 d,.int .i64 fr,.int .i64 m,.int .i64 fi,kp] 25)).alloc (.cells #[.int .i64 0,.int .i64 0,.slice none 0 0] 45));have U:Upd (fun _=>False) w w1:=by rw[G];exact((uur _ w).alloc _).alloc _
 have s:Bo own w1 ob [.int .i64 d,.int .i64 fr,.int .i64 m,.int .i64 fi,kp].toArray 25:=⟨by rw[G,A];exact(qxk _ _ _ oe).trans (zc w _ rfl),h.vo.ca.far _ oM⟩
 have D:Bo own w1 (ob+1) #[.int .i64 0,.int .i64 0,.slice none 0 0] 45:=⟨by rw[G,A];exact zc _ _ oe,h.vo.ca.far _ oM⟩
 have h1:=h.new U;have V:=za h1.g 5;have H:=s.cell 1;simp at V H;have a8:=zf s.1;have J:1<ob+1/\0<ob+1:=by have:=h.vo.ca.nib.lt;have:=h.vo.ca.tur.lt;omega
 have O:r<ob:=by rw[A];exact zd h.g
 have ap:=qqh a7;have aa:=Y7 h1 (h.vo.ca.j3 U) s D J O A;have ab:=Y2 G A;have aq:=underlying25;have ar:=wn;clear h h1 s D U G A J O a7;go_enter func43,ntmps43
 go_upto_region 1 with fail
 rw[<-ab.o.1,<-ab.o.2];refine qZd (S:=fun W=>W.cell? ⟨r,5,none⟩=some (ptr v)/\W.rangeAt ob 0 [.int .i64 d,.int .i64 fr,.int .i64 m,.int .i64 fi,kp]) kR (⟨by rw[qYi];exact V,by rw[qYk];exact a8⟩) (fun ad=>?_);refine Wl.i [0,1,2,3] ?_;iterate 4 refine Wl.t ad ?_
 refine Wl.o ?_;refine Wl.l 4 (fun w h=>h.2) aq ar ad ?_;refine Wl.r 5 (fun E j=>?_);go_simp
 refine(YE ao _).mono ?_;rintro e aD ⟨rfl,ae⟩;have K:=(uur (fun _=>False) w1).drew.trans (uuo (S:=fun _=>False) ae);have au:=K.jU V id;have av:=K.range a8 id;have aw:=qqh (ap.o _ (aa.o.1.new K).vo);have Q:=qqh K;clear ae K;refine j.o _ _ (⟨au,av⟩) (fun aE=>?_);clear j E;refine Wl.r 6 (fun E j=>?_);go_simp
 refine aw.o.mono ?_;rintro e af ⟨R,ag⟩;have ax:=qqh ag;obtain⟨rfl,ay,R,M⟩:=R;clear ag;obtain⟨h1,ah,s,D,J,O,A⟩:=aa.o;have Y:=(h1.new Q.o).vol R M;have Z:=za Y.g 5;have ai:=s.keep Q.o id;have aj:=D.keep Q.o id;have ak:=ai.didR M (s.neV h1.vo) (s.neV h1.vo);have H:=aj.didR M (D.neV h1.vo) (D.neV h1.vo);simp at Z;have az:=qqh (yg.fin (Rq:=Sq v q) (v0:=v) (cd:=cd) (m:=0) Y H (w:=w) oM J ((ah.trans (h1.vo.ca.j3 Q.o)).toR.trans M.run (.inl rfl)) ⟨rfl,rfl⟩ (Ro.nil _ ay af));have am:=vy H.1;have a6:=zo af (ob+1) 0 [.int .i64 cd,.int .i64 0,.slice none 0 0];have aA:=a6.jU Z (fun e=>by replace e:r=ob+1:=e;omega);have an:=zf ak.1;have aB:=a6.range an (fun e=>by replace e:ob=ob+1:=e;omega);clear h1 ah s D J O A Y R M ai aj ak H a6;refine j.o _ _ (⟨Z,an⟩) (fun aC=>?_);clear j E;refine Wl.r 7 (fun E j=>?_);go_simp
 refine j.o _ _ (aC) (fun aF=>?_);clear j E;refine Wl.r 8 (fun E j=>?_);rw[if_pos oA];refine qZe _ _ _ rfl _ _ [.int .i64 cd,.int .i64 0,.slice none 0 0].toArray rfl rfl am zO (qYo (yA rfl)) ?_;simp only[Act.put,qXd];refine j.o _ _ (⟨aA,aB⟩) (fun aG=>?_);clear j E;refine Wl.d ?_;go_wp2
 exact qYq (zq rfl _ _ (ob+1) 0 [.int .i64 cd,.int .i64 0,.slice none 0 0] _ rfl (qYl _ _ _ _ am) underlying45 rfl zO) rfl ⟨az.o,ax.out⟩
theorem sh(h:RunAt own w r v q n p a md cl)(j:kp.oneCell'=true)(s:∀W,VolAt own W v q n p a md cl->Calls prog 79 #[ptr v,ut fr m] W (VoR own W v q n p a' md' cl' (.int .i64 cd))):
  Calls prog 43 #[ptr r,xI d fr m fi kp] w (yg (Sq v q) own w r v n cd 0 [] a' md' cl'):=
 (WD (X:=True) h j (fun W A=>(s W A).mono fun _ _ h=>⟨h,trivial⟩)).mono fun _ _ h=>h.1
end
end Go.Proofs.YtbnpkobbnjihjaaGreatDoor
