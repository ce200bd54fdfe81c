/- Sets of spans: -/
import Derived.Test.YtbnpkobbnjihjaaGreatDoorG10
import Derived.Test.YtbnpkobbnjihjaaGreatDoorG09
set_option maxRecDepth 100000
set_option maxHeartbeats 2000000
namespace Go.Proofs.YtbnpkobbnjihjaaGreatDoor
open Go Go.RowKit Tryz
variable{w w0:World}{f n:Int}{v:Value}{b mb bl ssd back:Nat}{own0:Nat->Nat}{dF bF F:List Bk}{dO bO O:List (Nat×Bk)}{dP bP:List Int}{l:List Bool}
theorem Zh:(prog.info? 50).map (fun i=>(i.zero,i.size,i.bytes))=some (some (.agg #[.int .i64 0,.int .i64 0]),2,16):=kR
theorem Jb(h:Rd w 2 v 1 [.int .i64 f,.int .i64 n]):
  Calls prog 209 #[v] w fun e w'=>∃j,e=.returned j/\Sl w' 50 2 j 1 [.int .i64 f,.int .i64 n]/\Below w.heap.size w w':=by
 obtain⟨s,A,D,E,G⟩:=qYu Zh;have H:=qqh h;obtain⟨J,V,K,c,rfl,p,_⟩:=h;have W:=fun(w:World) (a:Option Addr) (n c:Nat)=>Lib.run_eql_slice_nil (P:=prog) w 343 50 a n c 0 0 underlying343;cases K with
 |none=>
  have M:=p rfl;cases M
 |some a=>
  clear p J;have N:Sl (w.alloc (.cells #[] 50)) 50 2 (.slice (some ⟨w.heap.size,0,none⟩) 0 0) 0 []:=
   ⟨oe,.inr ⟨w.heap.size,0,0,#[],rfl,zc _ _ rfl,oe,by simp[maxLen],oe,oe⟩⟩
  have R:Hid (Rd (w.alloc (.cells #[] 50)) 2 (.slice (some a) 1 c) 1 [.int .i64 f,.int .i64 n]):=H.o.keep ((uur (fun _=>False) _).alloc _) (fun _ _ h=>h);have S:∀u∈[Value.int .i64 f,Value.int .i64 n],u.oneCell'=true:=by intro u q;simp at q;rcases q with rfl|rfl<;>rfl
  go_enter func209,ntmps209
  go_wp2_with (at_builtin;refine zF rfl _ _ 343 rfl s (.agg #[.int .i64 0,.int .i64 0]) 16 underlying343 A D E G rfl de rfl N _ 1 [.int .i64 f,.int .i64 n] rfl R.o S (by simp[maxLen]) oe ?_)
  intro j X T U Y;go_wp2
  go_ret
  refine⟨_,rfl,by simpa using T,?_⟩;exact zj ((qxl _ _).alloc (qXp _) _) U (qXp _) oy
theorem Zcg13{P:Prop}(h:P:=by
  clear j k;refine Wl.r 7 (fun k j=>?_);refine zQ rfl _ _ _ rfl rfl rfl ah ?_;refine j.o _ _ (Z) (fun a6=>?_);clear j k;refine Wl.i [8,9] ?_;iterate 2 refine Wl.t a6 ?_
  refine Wl.o ?_;refine Wl.r 10 (fun k j=>?_);go_simp
  refine j.o _ _ (am _) (fun ay=>?_);clear j k;refine Wl.d ?_;go_wp2
  go_end0
  exact⟨rfl,(((p.o.2.1.trans V.o.2).trans V.o.1).mono fE).trans (zi G b 0 _)⟩):P:=h
theorem Qz(H:w.heap[b]?=some (.cells #[.slice none 0 0] 348 (0,0)))(az:1<=n):
  Calls prog 212 #[.pointer (some ⟨b,0,none⟩),ut f n] w fun e w'=>e=.returned (.tuple #[])/\Upd (fun a7=>a7=b) w w':=by
 have a8:w.cell? ⟨b,0,none⟩=some (.slice none 0 0):=za H 0;have an:b<w.heap.size:=zd H;obtain⟨ao,aa,ab,ad,ae⟩:=qYu Zh;have J:=Y4 aa ab ad ae;clear aa ab ad ae;obtain⟨m,W⟩:=qqe (w.heap.size);obtain⟨w1,D⟩:=qqe (w.alloc (.cells #[.int .i64 f,.int .i64 n] 50));have K:=qqu D;have M:w1.heap[m]?=some (.cells #[.int .i64 f,.int .i64 n] 50 (0,0)):=by rw[D,W];exact zc w _ rfl
 have c1:w1.cell? ⟨m,1,none⟩=some (.int .i64 n):=za M 1;have ap:=zf M;have N:w1.cell? ⟨b,0,none⟩=some (.slice none 0 0):=K.jU a8 id;have q1:¬n=0:=oM;have af:=N;rw[D]at af;have aq:=underlying50;have ar:=zV;have p:=Y5 D K W an M;have au:=qqh (K.jV H);clear D K W M a8 H;go_enter func212,ntmps212
 go_upto_region 3 with fail
 rw[<-p.o.1,<-p.o.2.2.1];clear af;refine qZd (S:=fun X=>X.cell? ⟨b,0,none⟩=some (.slice none 0 0)) kR (by rw[qYi];exact N) (fun s=>?_);refine Wl.i [0,1,2,3,4,5,6,7,8,9,10,11,12,13] ?_;iterate 14 refine Wl.t s ?_
 refine Wl.o ?_;refine Wl.r 14 (fun k j=>?_);go_simp
 refine j.o _ _ (s) (fun Y=>?_);clear j k;refine Wl.d ?_;go_upto_region 5 with fail
 have av:Sl w1.drew 50 2 (.slice none 0 0) 0 []:=Sl.nil _ _ _;obtain⟨E,R⟩:∃E:List Value,E=[.int .i64 f,.int .i64 n]:=⟨_,rfl⟩
 obtain⟨T,U⟩:=qqe (w1.drew.drew.alloc (.cells E.toArray 50));have A:Upd (fun _=>False) w1 T:=by rw[U];exact((uur _ w1).drew.drew).alloc _
 have ag:Rd T 2 (.slice (some ⟨w1.drew.drew.heap.size,0,none⟩) 1 1) 1 E:=by rw[U];exact Rd.fresh w1.drew.drew E 50 1 (by rw[R];rfl) oh
 obtain⟨aA,G,ah,ai,q,aw⟩:=yy 343 343 ao _ 16 underlying343 J.o.1 J.o.2.1 J.o.2.2.1 J.o.2.2.2 rfl de (Sl.nil T _ _) ag (by rw[R];intro u aj;simp at aj;rcases aj with rfl|rfl<;>rfl) oh oM;obtain⟨aB,aC,rfl⟩:=ai.rd.jW;have z9:=zl N (.cells #[.int .i64 f,.int .i64 n] 50);have q:Upd (fun _=>False) T G:=q.mono (fun a7 _ h=>by simp[ownS,Value.ownBlock]at h);rw[R]at U;subst U;have z0:=A.jU N id;have ak:=(zf (A.jV p.o.2.2.2.2))
 have Z:=(zf (q.jV (A.jV p.o.2.2.2.2)))
 have aD:=q.jU z0 id;have aE:=zg (q.jV (A.jV au.o)) 0;have am:∀x,(G.setCell ⟨b,0,none⟩ x).rangeAt m 0 [.int .i64 f,.int .i64 n]:=fun x=>(zi G b 0 x).range Z (fun e=>by have:=p.o.2.2.2.1;have:=p.o.2.2.1;replace e:m=b:=e;omega);have V:=Y2 q A;clear av R q A ag ai aw;refine qZd (S:=fun X=>X.rangeAt m 0 [.int .i64 f,.int .i64 n]) kR (by rw[qYk,qYk];exact ap) (fun s=>?_);refine Wl.i [0,1,2,3] ?_;iterate 4 refine Wl.t s ?_
 refine Wl.o ?_;refine Wl.l 5 (fun w h=>h) aq ar s ?_;refine qYy (rs:=[4,6]) kR oe ?_;refine qxb rfl (fun k j=>?_) (qxb rfl (fun k j=>?_) qxc)
 .go_simp
  refine j.o _ _ (s) (fun Y=>?_);clear j k;refine Wl.r 6 (fun k j=>?_);go_simp
  refine j.o _ _ (ak) (fun ax=>?_);exact Zcg13
 .go_simp
  refine j.o _ _ (ak) (fun Y=>?_);clear j k;refine Wl.r 4 (fun k j=>?_);go_simp
  refine j.o _ _ (Y) (fun ax=>?_);exact Zcg13
theorem zdn(h:Rd w 2 v 1 [.int .i64 f,.int .i64 n])(h1:0<=f)(h2:1<=n)(W:f+n<=1048576):
  Calls prog 139 #[v] w fun e w'=>∃b,e=.returned (.tuple #[.pointer (some ⟨b,0,none⟩),.int .i64 0])/\Below w.heap.size w w':=by
 obtain⟨J,K,aw,rfl,hlt,D⟩:=h.at oM;have an:w.cell? ⟨J,K,none⟩=some (.int .i64 f):=D 0 _ rfl;have ao:w.cell? ⟨J,K+1,none⟩=some (.int .i64 n):=D 1 _ rfl;have X:w.rangeAt J K [.int .i64 f,.int .i64 n]:=fun p u M=>D p u M;have Y:=zV;have q:=Y5 h h1 h2 W hlt;clear D h h1 h2 W hlt;go_enter func139,ntmps139
 go_wp2_with fail
 go_loopg[12] 1 (fun gk i wr=>(gk=1/\i=.int .i64 0/\wr=w)\/(gk=0/\i=.int .i64 1/\Upd (fun _=>False) w wr))
 case atStart=>exact .inl ⟨rfl,rfl,rfl⟩
 case round=>
  rcases hrel with⟨k,rfl,j⟩|⟨-,rfl,j⟩
  .have k:=qqh k;rw[j];clear j;go_wp2_with (first
    |(refine qZa rfl _ _ rfl _ _ rfl _ _ X underlying50 rfl Y ?_)
    |fail)
   refine(zcI q.o.2.1 (by have:=q.o.2.2.1;omega) q.o.2.2.2.1 _).mono ?_;rintro e E ⟨rfl,s⟩;have ap:=qqh (((uur (fun _=>False) w).alloc (.cells #[.int .i64 f,.int .i64 n] 50)).trans (uuo s));clear s;go_wp2_with fail
   go_roundg 0
   case measure=>have:=k.out;omega
   case rel=>exact .inr ⟨rfl,by go_num,ap.out⟩
  .have Z:=qqh j;clear j;have a6:=qqh (Jb (q.o.1.keep Z.o (fun _ _ h=>h)));go_wp2_with fail
   refine a6.o.mono ?_;rintro e E ⟨ax,rfl,G,s⟩;obtain⟨ay,az,rfl⟩:=G.rd.jW;obtain⟨a7,a8,c2,aq,ar,aa⟩:=G.rd.at oM;cases aq;have ab:=Z.o.trans (uuo (S:=fun _=>False) s);have ad:=Y2 G ab;have ae:E.rangeAt a7 a8 [.int .i64 f,.int .i64 n]:=fun p u M=>aa p u M;clear s ab G aa a6 ar an ao X;go_wp2_with fail
   refine(Qo _ _ _ _).mono ?_;rintro e aA ⟨rfl,af⟩;rw[af];clear af;obtain⟨H,A⟩:=qqe (E.alloc (.cells #[.slice none 0 0] 348));have N:=qqu A;have ag:=qqg A;go_wp2_with fail
   rw[<-A];have au:H.rangeAt a7 a8 [.int .i64 f,.int .i64 n]:=N.range ae id;have ah:=Y3 A N ag;obtain⟨sb,R⟩:=qqe (E.heap.size);rw[<-R];have ai:=qqh R;clear A N ag R ae;go_loopg[28] 1 (fun gk i wr=>(gk=1/\i=.int .i64 0/\wr=H)\/(gk=0/\i=.int .i64 1/\Upd (fun p=>p=sb) H wr))
   case atStart=>exact .inl ⟨rfl,rfl,rfl⟩
   case round=>
    rcases hrel with⟨k,rfl,j⟩|⟨-,rfl,j⟩
    .have k:=qqh k;rw[j];clear j;obtain⟨aB,T⟩:=qqe (H.alloc (.cells #[.int .i64 f,.int .i64 n] 50));have U:=qqu T;have aj:=qqh (Qz (f:=f) (n:=n) (U.jV (ai.o▸ah.o.2.2)) q.o.2.2.1);have ak:=Y2 T U;clear T U;go_wp2_with (first
      |(refine qZa rfl _ _ rfl _ _ rfl _ _ au underlying50 rfl Y ?_)
      |fail)
     rw[<-ak.o.1];refine aj.o.mono ?_;rintro e aC ⟨rfl,am⟩;have V:=qqh ((ak.o.2.mono fE).trans am);clear am aj;go_wp2_with fail
     go_roundg 0
     case measure=>have:=k.out;omega
     case rel=>exact .inr ⟨rfl,by go_num,V.o⟩
    .have V:=qqh j;clear j;go_wp2
     go_ret2
     have hx:=(ad.o.2.trans ah.o.2.1)
     refine⟨sb,rfl,zj hx.below V.o (qXp _) (fun av k=>?_)⟩;replace k:av=sb:=k;have:=ai.o;have:=ad.o.2.size;omega
def lkE(x:Option Nat×Int×Int):Value:=.agg #[.pointer (x.1.map (⟨·,0,none⟩)),.int .i64 x.2.1,.int .i64 x.2.2]
theorem Te(x y:Option Nat×Int×Int)(h:lkE x=lkE y):x=y:=by
 obtain⟨a,f,n⟩:=x;obtain⟨j,k,p⟩:=y;cases a<;>cases j<;>simp[lkE]at h⊢<;>simp_all
theorem Jc{α:Type}{enc:α->Value}(h:MapG noE w mb 0 (fun _=>none)):MapG enc w mb 0 (fun _=>none):=by
 obtain⟨q,⟨k,j,p,s,A,D⟩,E⟩:=h;obtain rfl:k= #[]:=Array.eq_empty_of_size_eq_zero oM;exact⟨.map [],⟨#[],j,p,⟨oe,Go.MapKept.stamped_empty j,oe⟩,qXp _,rfl⟩,fun G=>⟨rfl,fun c h=>by cases h⟩⟩
theorem zdo(w:World):(zeroValue 235).run prog w=.ok (lkE (none,0,0)) w:=kR
theorem zaC{lb:Nat}(h:vj w lb mb bl)(T:bl<=4096){id:Nat}(p:id<=100000)(U:inS bl f n):
  Calls prog 75 #[.pointer (some ⟨lb,0,none⟩),.int .i64 (id:Int),ut f n] w fun e w'=>e=.returned (.int .i64 0)/\Upd (fun az=>az=mb) w w':=by
 obtain⟨m,V⟩:=qqe (w.heap.size);obtain⟨w1,J⟩:=qqe (w.alloc (.cells #[.int .i64 f,.int .i64 n] 50));have W:=qqu J;have X:w1.heap[m]?=some (.cells #[.int .i64 f,.int .i64 n] 50 (0,0)):=by rw[J,V];exact zc w _ rfl
 have ad:=zf X;have q1:¬(id:Int)<0:=oM;have ae:=qqh (SJ (h.new W) T U);have j:=Y8 J W V h X U T p;have aA:=underlying50;have K:=zV;clear h J W V X U p T;go_enter func75,ntmps75
 go_upto_region 1 with fail
 rw[<-j.o.1,<-j.o.2.2.1];go_wp2_with (first
  |(refine qZa rfl _ _ rfl _ _ rfl _ _ ad underlying50 rfl K ?_)
  |fail)
 refine ae.o.mono ?_;rintro e s ⟨rfl,af⟩;have A:=qqb af;have h2:=(j.o.2.2.2.1.new j.o.2.1).new A;have c2:s.cell? ⟨lb,1,none⟩=some (.map (some mb)):=by rw[za h2.1];rfl
 have p:=j.o.2.2.2.2.2.2.2;have aB:(Instr.lookup 148 (.map (some mb)) (.int .i64 (id:Int)) true).run prog s=.ok (.tuple #[.agg #[.pointer none,.int .i64 0,.int .i64 0],.bool false]) s:=(Jc h2.2).look Te underlying148 (zdo s) oM oM;obtain⟨aI,M⟩:=qqe (s.alloc (.cells #[.pointer none,.int .i64 0,.int .i64 0] 235));have q:=qqu M;have Y:=zf (q.jV (A.jV j.o.2.2.2.2.1));rw[M]at Y;have ag:=qqh (UR (h2.new q) f n);have D:=Y4 M (j.o.2.1.trans (A.trans q)) (h2.new q) (q.jV (A.jV j.o.2.2.2.2.1));clear af A h2 p M q ae ad;go_wp2_with (first
  |(refine qZa rfl _ _ rfl _ _ rfl _ _ Y underlying50 rfl K ?_)
  |fail)
 rw[<-D.o.1];refine ag.o.mono ?_;rintro e Z ⟨rfl,ah⟩;have a6:=qqb ah;have ai:=zf (a6.jV D.o.2.2.2);obtain⟨aj,ak,aC,aD⟩:=j.o.2.2.2.2.2.1;have aE:=j.o.2.2.2.2.2.2.1;have am:=zdn (Rd.fresh Z [.int .i64 f,.int .i64 n] 50 1 (k:=2) (m:=1) rfl oh) aj ak oM;have an:=qqh am;have a7:=qqh a6;clear ah a6 am aj ak aC aD aE ag Y c2 aB;go_wp2_with (first
  |(refine qZa rfl _ _ rfl _ _ rfl _ _ ai underlying50 rfl K ?_)
  |fail)
 refine an.o.mono ?_;rintro e E ⟨sb,rfl,ao⟩;have N:Upd (fun _=>False) Z E:=((uur (fun _=>False) Z).alloc _).trans (uuo ao);have G:=D.o.2.2.1.new (a7.o.trans N);have ap:E.cell? ⟨lb,1,none⟩=some (.map (some mb)):=by rw[za G.1];rfl
 have aq:=zf (N.jV (a7.o.jV D.o.2.2.2));have p:=j.o.2.2.2.2.2.2.2;obtain⟨a8,ar,-,R,-⟩:=(Jc (G.2.keep ((uur (fun _=>False) E).drew) (fun h=>h))).store Te underlying148 (x:=(id:Int)) oM oM (some sb,f,n) (by simp[maxLen]);have ar:(Instr.mapUpdate 148 (.map (some mb)) (.int .i64 (id:Int)) (.agg #[.pointer (some ⟨sb,0,none⟩),.int .i64 f,.int .i64 n])).run prog E.drew=.ok () a8:=ar;have au:lb≠mb:=fun e=>by
  have av:=G.1;obtain⟨aJ,⟨aK,aL,aF,-⟩,-⟩:=G.2;rw[e,aF]at av;cases av
 have aw:m≠mb:=fun e=>by
  have:=j.o.2.2.2.1.2.lt;have:=j.o.2.2.1;omega
 have aG:a8.cell? ⟨lb,1,none⟩=some (.map (some mb)):=R.jU (by rw[qYi];exact ap) au;have aH:a8.rangeAt m 0 [.int .i64 f,.int .i64 n]:=R.range (by rw[qYk];exact aq) aw;have ax:=Y2 N R;clear au aw;clear ao N G R an ai p;go_upto_region 17 with fail
 refine qZd (S:=fun ay=>ay.cell? ⟨lb,1,none⟩=some (.map (some mb))/\ay.rangeAt m 0 [.int .i64 f,.int .i64 n]) kR (⟨by rw[qYi];exact ap,by rw[qYk];exact aq⟩) (fun aa=>?_);refine Wl.i [0,1,2,3,4,5] ?_;iterate 6 refine Wl.t aa ?_
 refine Wl.o ?_;refine Wl.l 6 (fun w h=>h.2) aA K aa ?_;refine Wl.r 7 (fun ab H=>?_);go_simp
 refine H.o _ _ (aa) (fun aM=>?_);clear H ab;refine Wl.r 8 (fun ab H=>?_);go_simp
 refine H.o _ _ (⟨aG,aH⟩) (fun aN=>?_);clear H ab;refine Wl.d ?_;go_wp2
 go_ret
 exact⟨rfl,((D.o.2.1.trans (a7.o.trans ax.o.1)).mono fE).trans ((uur _ E).drew.trans ax.o.2)⟩
def Yc(w:World)(ps:List (Int×Bool))(f n:Nat)(e:Ending)(w':World):Prop:=
 ∃Bs Bp g off cap,e=.returned (.func (.func 203) #[] #[.pointer (some ⟨Bs,0,none⟩),.pointer (some ⟨Bp,0,none⟩)])/\
  (w.heap.size<=Bp/\w.heap.size<=g/\w.heap.size<=Bs)/\Bs<w'.heap.size/\(∃cs z,w'.heap[Bp]?=some (.cells cs 50 z))/\(∃cs z,w'.heap[g]?=some (.cells cs 231 z))/\w'.cell? ⟨Bs,0,none⟩=some (.slice (some ⟨g,off,none⟩) (spanL ps f n).length cap)/\w'.cell? ⟨Bp,0,none⟩=some (.int .i64 f)/\
  (∀j (h:j<(spanL ps f n).length),w'.cell? ⟨g,off+j*2,none⟩=some (.int .i64 (spanL ps f n)[j].1)/\w'.cell? ⟨g,off+j*2+1,none⟩=some (.bool (spanL ps f n)[j].2))/\Below w.heap.size w w'
theorem zaD{N:Nat}{ps:List (Int×Bool)}{aK:Nat}(h:IndexAt w b v mb N ps aK)(f n:Nat)(aY:f<ps.length):
  Calls prog 132 #[.pointer (some ⟨b,0,none⟩),UQ f n] w (Yc w ps f n):=by
 have ai:Upd (fun _=>False) w (w.alloc (.cells #[.int .i64 f,.int .i64 n] 50)):=(uur _ _).alloc _;have V:=(ai.cellAt (o:=0) h.blt id).trans (za h.str 0);simp at V;have aZ:=h.le;have W:=qqh h;obtain⟨aL,c,rfl⟩:=h.sl.rd.jW;have b0:¬(f:Int)<0:=oM;have b1:¬(n:Int)<0:=oM;have b2:¬(ps.length:Int)<=f:=oM;clear h;go_enter func132,ntmps132
 go_wp2
 go_quiet(fail)
 go_wp2
 clear V;generalize af:(w.alloc (.cells #[.int .i64 f,.int .i64 n] 50)).drewN nq=j;have a6:Upd (fun _=>False) w j:=by rw[<-af];exact ai.drewN nq
 have a7:j.heap[w.heap.size]?=some (.cells #[.int .i64 f,.int .i64 n] 50):=by rw[<-af];exact zc w _ rfl
 have aM:j.heap.size=w.heap.size+1:=by rw[<-af];simp[World.drewN]
 clear af ai;have t0:=za a7 0;have aj:=za a7 1;simp at t0 aj;have V:=(a6.cellAt (o:=0) W.o.blt id).trans (za W.o.str 0);simp at V;obtain⟨gb,H,rfl,b3⟩:∃gb H,aL=some (⟨gb,H,none⟩:Addr)/\ps.length<=c:=by
  obtain⟨b4,⟨h1,h2⟩|⟨D,J,aN,aO,h1,hg,aP,_⟩⟩:=W.o.sl
  .omega
  .cases h1;exact⟨D,J,rfl,aP⟩
 have K:Upd (fun _=>False) j (j.alloc (.cells #[.slice none 0 0] 286)).drew:=((uur _ _).alloc _).drew;have ay:Hid (Rd (j.alloc (.cells #[.slice none 0 0] 286)).drew 2 (.slice (some ⟨gb,H+f*2,none⟩) (ps.length-f) (c-f)) (ps.drop f).length (plC (ps.drop f))):=
  (qy (W.o.sl.keep a6 (fun _ _ h=>h)) f oM).keep K (fun _ _ h=>h)
 have az:Hid (Rd j.drew 2 (.slice (some ⟨gb,H+f*2,none⟩) (ps.length-f) (c-f)) (ps.drop f).length (plC (ps.drop f))):=
  (qy (W.o.sl.keep a6 (fun _ _ h=>h)) f oM).keep ((uur (fun _=>False) j).drew) (fun _ _ h=>h)
 have a8:Hid (j.drew.cell? ⟨b,0,none⟩=some (.slice (some ⟨gb,H,none⟩) ps.length c)/\j.drew.cell? ⟨w.heap.size,0,none⟩=some (.int .i64 f)/\j.drew.cell? ⟨w.heap.size,1,none⟩=some (.int .i64 n)/\j.drew.heap[w.heap.size]?=some (.cells #[.int .i64 f,.int .i64 n] 50)):=⟨V,t0,aj,a7⟩
 have b5:¬c=f:=oM;have b6:f<=ps.length:=oM;have b7:=W.o.blt;have X:Hid ((j.alloc (.cells #[.slice none 0 0] 286)).drew.cell? ⟨b,0,none⟩=some (.slice (some ⟨gb,H,none⟩) ps.length c)/\(j.alloc (.cells #[.slice none 0 0] 286)).drew.cell? ⟨w.heap.size,0,none⟩=some (.int .i64 f)/\
   (j.alloc (.cells #[.slice none 0 0] 286)).drew.cell? ⟨w.heap.size,1,none⟩=some (.int .i64 n)/\(j.alloc (.cells #[.slice none 0 0] 286)).drew.heap[w.heap.size+1]?=some (.cells #[.slice none 0 0] 286)/\(j.alloc (.cells #[.slice none 0 0] 286)).drew.heap[w.heap.size]?=some (.cells #[.int .i64 f,.int .i64 n] 50)):=
  ⟨(K.cellAt oM id).trans V,(K.cellAt oM id).trans t0,(K.cellAt oM id).trans aj,zc j _ aM.symm,(K.block _ (zd a7) id).trans a7⟩
 have aQ:¬w.heap.size+1=b:=oM
 go_region_held3 (fun ak=>ak.cell? ⟨b,0,none⟩=some (.slice (some ⟨gb,H,none⟩) ps.length c)/\ak.cell? ⟨w.heap.size,0,none⟩=some (.int .i64 f)/\ak.cell? ⟨w.heap.size,1,none⟩=some (.int .i64 n)) (go_keep)
  (first
  |((go_at_call 202;refine(wF az.o og og).mono ?_;rintro e A ⟨aR,rfl,M,Y,hb3⟩;obtain⟨E,q,rfl⟩:=M.rd.jW;have am:=(hb3.cell (p:=⟨b,0,none⟩) og).trans a8.o.1;have aa:=(hb3.cell (p:=⟨w.heap.size,0,none⟩) og).trans a8.o.2.1;have ab:=(hb3.cell (p:=⟨w.heap.size,1,none⟩) og).trans a8.o.2.2.1;have R:=(hb3.block w.heap.size og).trans a8.o.2.2.2))
  |((go_at_call 202;refine(wF ay.o og og).mono ?_;rintro e A ⟨aR,rfl,M,Y,hb3⟩;obtain⟨E,q,rfl⟩:=M.rd.jW;have am:=(hb3.cell (p:=⟨b,0,none⟩) og).trans X.o.1;have aa:=(hb3.cell (p:=⟨w.heap.size,0,none⟩) og).trans X.o.2.1;have ab:=(hb3.cell (p:=⟨w.heap.size,1,none⟩) og).trans X.o.2.2.1;have kb:=(hb3.block (w.heap.size+1) og).trans X.o.2.2.2.1;have R:=(hb3.block w.heap.size og).trans X.o.2.2.2.2;have aA:=za kb 0;have aS:=zg kb 0;simp at aA)))
 case' refine_2.refine_3.refine_3.refine_3.refine_3.refine_3.refine_3.refine_3.refine_1.refine_2.refine_1.refine_2.refine_1.refine_2=>
  have s:Upd (fun _=>False) A (A.alloc (.cells #[.slice E (ps.length-f) q] 286)):=(uur _ _).alloc _;have G:=zc A (.cells #[.slice E (ps.length-f) q] 286) rfl;have Z:=zj (zj (qxl _ w) a6 (qXp _) (fun _ h=>h.elim)) (uuo (S:=fun _=>False) (UP hb3)) (qXp _) (fun _ h=>h.elim);have aB:From w.heap.size (.slice E (ps.length-f) q):=fun g hg=>by have:=Y g oV;simp at this;omega
  have ag:w.heap.size<=A.heap.size:=Z.size;have ah:=M.keep s (fun _ _ h=>h);have an:=(s.block _ (zd R) id).trans R;have ao:=zj Z s (qXp _) (fun _ h=>h.elim);have t5:=(s.cellAt (b:=w.heap.size) (o:=0) ow id).trans aa;have aT:=(s.cellAt (b:=w.heap.size) (o:=1) ow id).trans ab;have ap:A.heap.size≠w.heap.size:=by have:=hb3.size;simp at this;omega
  clear s M Y hb3 R am aa ab Z;generalize (A.alloc (.cells #[.slice E (ps.length-f) q] 286))=ad at*;generalize A.heap.size=T at*
 rotate_left
 have s:Upd (fun k=>k=w.heap.size+1) A (A.setCell ⟨w.heap.size+1,0,none⟩ (.slice E (ps.length-f) q)):=zi _ _ _ _;have G:=zh kb 0 (.slice E (ps.length-f) q);simp at G;have aC:=zj (zj (qxl _ w) a6 (qXp _) (fun _ h=>h.elim)) K (qXp _) (fun _ h=>h.elim);have Z:=zj aC (uuo (S:=fun _=>False) hb3) (qXp _) (fun _ h=>h.elim);have aB:From w.heap.size (.slice E (ps.length-f) q):=fun g hg=>by have:=Y g oV;simp at this;omega
 have ag:w.heap.size<=w.heap.size+1:=oM;have an:=(s.block _ (zd R) oM).trans R;have ah:=M.keep s (fun g hg e=>by have:=Y g hg;simp at this;omega);have ao:=zj Z s (qXp _) (fun k e=>oM);have t5:=(s.cellAt (b:=w.heap.size) (o:=0) ow oM).trans aa;have aT:=(s.cellAt (b:=w.heap.size) (o:=1) ow oM).trans ab;have ap:w.heap.size+1≠w.heap.size:=oM;clear s M Y hb3 R am aa ab aA aS kb aC Z aQ K X a8 ay az;generalize (A.setCell ⟨w.heap.size+1,0,none⟩ (.slice E (ps.length-f) q))=ad at*;generalize w.heap.size+1=T at*
 all_goals
  obtain⟨D,J,aN,aO,aU,U,aV,aq⟩:=ah.at og
 all_goals
  cases aU;have ar:Hid (∀k (h:k<(ps.drop f).length),ad.cell? ⟨D,J+k*2,none⟩=some (.int .i64 (ps.drop f)[k].1)/\ad.cell? ⟨D,J+k*2+1,none⟩=some (.bool (ps.drop f)[k].2)):=
   fun k h=>⟨(za U _).trans (aq _ _ (xQ h).1),(za U _).trans (aq (k*2+1) _ (xQ h).2)⟩
  have au:=zd U;have aD:=aB D rfl;have aE:=zd G;have b8:ps.length-f<=q:=by
   obtain⟨_,⟨h1,_⟩|⟨_,_,_,_,h1,_,h2,_⟩⟩:=ah
   .cases h1
   .cases h1;simpa using h2
  have av:D≠T:=fun e=>by
   rw[e]at U;rw[U]at G;simp at G
  have aF:=za G 0;have b9:=zg G 0;simp at aF;have aW:=qqh G;have aG:=qqh U;have aw:=qqh an;clear an aV aq U ah G;by_cases hlt:(n:Int)<((ps.length-f:Nat):Int)
  .have ba:n<=ps.length-f:=oM;have bb:n<=q:=oM;have ax:Hid (spanL ps f n=(ps.drop f).take n):=rfl;have aH:(spanL ps f n).length=n:=by simp[spanL];omega
   go_wp2
   go_ret
   have ae:Upd (fun k=>k=T) ad (ad.setCell ⟨T,0,none⟩ (.slice (some ⟨D,J,none⟩) n q)):=zi _ _ _ _;have aI:=(zH t5).2;refine⟨T,w.heap.size,D,J,q,rfl,⟨qXp _,aD,ag⟩,by rw[World.size_setCell];exact aE,⟨_,_,(ae.block _ (zd aw.o) (fun e=>ap e.symm)).trans aw.o⟩,⟨_,_,(ae.block D au (fun e=>av e)).trans aG.o⟩,?_,(ae.cellAt aI (fun e=>ap e.symm)).trans t5,?_,ao.setCell (p:=⟨T,0,none⟩) ag _⟩
   .rw [aH,za (zh aW.o 0 _)];simp
   .intro k aX;have aJ:k<(ps.drop f).length:=by rw[aH]at aX;simp;omega
    have e:(spanL ps f n)[k]=(ps.drop f)[k]:=by simp[spanL]
    rw[e];exact⟨(ae.cellAt au (fun e=>av e)).trans (ar.out k aJ).1,(ae.cellAt au (fun e=>av e)).trans (ar.out k aJ).2⟩
  .go_wp2
   go_ret
   have ax:spanL ps f n=ps.drop f:=by unfold spanL;rw[qXj];simp;omega
   have aI:=(zH t5).2;exact⟨T,w.heap.size,D,J,q,rfl,⟨qXp _,aD,ag⟩,aE,⟨_,_,aw.o⟩,⟨_,_,aG.o⟩,by rw[ax,qza];exact aF,t5,by rw[ax];exact ar.out,ao⟩
def zfo{α:Type}(n g:Nat)(lb:Array Value)(encs:α->Array Value)(Kp:World->World->Prop)(S Sp:List α->Prop)(N:Nat)(w:World):Prop:=
 ∀(l:Nat) (J Jx:List α->World->Prop) (W:World),Below w.heap.size w W->w.heap.size+2<=W.heap.size->OwnFrom W.heap.size J->OwnFrom W.heap.size Jx->
  (∀pre x W1,J pre W1->pre.length<N->YieldAt Fence.wide (n-1) prog l (encs x) W1 fun e W'=>
   (e=.returned (.bool true)/\J (pre++[x]) W'/\Kp W1 W')\/(e=.returned (.bool false)/\Jx (pre++[x]) W'/\Kp W1 W'))->
  J [] W->
  CallsIn Fence.wide n prog g (#[.func (.yield l) #[] #[]]++lb) W fun e W'=>(∃v,e=.returned v)/\((∃xs,S xs/\J xs W')\/(∃pre,Sp pre/\Jx pre W'))
def Jd{α:Type}(B:Nat)(Kp:World->World->Prop)(I:List α->World->Prop)(Ix:Code->List α->World->Prop)(xs:List α)(W:World):Exit->Act->World->Prop
 | .normal,_,W'=>KeepsFrom B W W'/\Kp W W'/\I xs W'
 | .ret,_,W'=>KeepsFrom B W W'/\Kp W W'/\Ix .ret xs W'
 | .exit id,_,W'=>KeepsFrom B W W'/\Kp W W'/\Ix (.exit id) xs W'
 | .goto t,_,W'=>KeepsFrom B W W'/\Kp W W'/\Ix (.goto t) xs W'
 | .panic _,_,_=>False
 | .outgrown,_,_=>False
theorem uW{W h:World}{j:Option Nat}(q:W.grownBy h j){B r:Nat}{o:Obj}(s:∀k,j=some k->B<=k)(A:r<B)(p:W.heap[r]?=some o):h.heap[r]?=some o:=
 (q.block r (Array.getElem?_eq_some_iff.1 p).1 (fun e=>by have:=s r e.symm;omega)).trans p
section
variable{α:Type}{g:Operand}{ps:Array Tmp}{assign body:Code}{Q:Exit->Act->World->Prop}{a:Act}{w:World}
theorem XJ{n:Nat}{gf:Nat}{lb:Array Value}(aA:a.eval g=.func (.func gf) #[] lb)(aB:∀ap w,(callFunc gf ap).run prog w=.ok (.enter gf ap) w)
  {aj:α->Array Value} {Kp:World->World->Prop} {S aq:List α->Prop} {N:Nat}  (aC:zfo (n-1) gf lb aj Kp S aq N w0)
  (K:∀{H B C:World},Kp H B->Kp B C->Kp H C) (aa:∀(W:World) (o aD:Obj),W.heap[w.heap.size+1]?=some o->o.isCells=false->Kp W (W.putObj (w.heap.size+1) aD)) (am:Below w0.heap.size w0 w) (aE:∀x,(aj x).size=ps.size)
  (I:List α->World->Prop) (Ix:Code->List α->World->Prop) (T:OwnFrom w.heap.size I) (ab:∀c,OwnFrom w.heap.size (Ix c)) (aF:I [] w) (ar:α->Act)
  (aG:∀(l:Nat) (x:α) (W:World) (au:Act->World->Prop),au (ar x) W->
   assign.wpIn (Fence.wide.inRound l) (n-1-1) prog (Exit.then au (fun _ _ _=>False)) {tmps:=(ps.zip (aj x)).foldl (fun t (aH,v)=>t.setIfInBounds aH v) a.tmps,defers:=[]} W)
  (av:∀(l:Nat) (pre:List α) (x:α) (W:World),I pre W->pre.length<N->body.wpIn (Fence.wide.inRound l) (n-1-1) prog (Jd w.heap.size Kp I Ix (pre++[x]) W) (ar x) W)
  (aw:∀(D:Nat) (xs:List α) (W:World),w.heap.size<=D->S xs->I xs W->W.heap[D]?=some (.deferred (some []))->Q .normal {a with defers:={target:=.collected D,args:= #[]}::a.defers} W)
  (ax:∀(D:Nat) (c:Code) (pre:List α) (W:World),w.heap.size<=D->aq pre->Ix c pre W->W.heap[D]?=some (.deferred (some []))->c.wpIn Fence.wide n prog Q {a with defers:={target:=.collected D,args:= #[]}::a.defers} W):
  (Code.rangeFunc g ps assign body).wpIn Fence.wide n prog Q a w:=by
 refine wpIn_rangeFunc fun ay aI=>?_;obtain⟨j,ag⟩:=qqe (w.heap.size);obtain⟨q,J⟩:∃q:LoopState->Option Code->Loop,q=fun aJ aK=>{state:=aJ,pending:=aK,fn:=ay,tmps:=a.tmps,params:=ps,assign,body,defers:=j}:=⟨_,rfl⟩
 obtain⟨A,ad⟩:=qqe ((w.alloc (.deferred (some []))).alloc (.loop (q .ready none)));have aW:A.heap.size=j+2:=by rw[ad,ag];simp
 have aL:A.heap[j+1]?=some (.loop (q .ready none)):=by
  rw[ad,ag];have:=World.alloc_heap_new (w.alloc (.deferred (some []))) (.loop (q .ready none))
  rwa[qYm]at this
 have aM:A.heap[j]?=some (.deferred (some [])):=by rw[ad,ag];exact(qxk _ _ _ oe).trans (World.alloc_heap_new w _)
 rw[<-ag]at T ab aa av aw ax;have aN:I [] A:=by rw[ad];exact T.alloc _ (T.alloc _ aF)
 have aO:Below w0.heap.size w0 A:=by
  rw[ad];exact am.trans ((((qxl _ w).alloc (qXp _) _).alloc oe _).mono am.size)
 refine⟨j+1,[{target:=.collected j,args:= #[]}],A,{target:=.fn (.func gf) lb,args:= #[.func (.yield (j+1)) #[] #[]]},A,gf,#[.func (.yield (j+1)) #[] #[]]++lb,A,?_,?_,?_,?_,fun e=>(by cases e),?_⟩
 .rw [ad,J,ag];exact run_enterLoop_outer _ _ _ _ _
 .simp only[resolve,aA];simp[go_sem]
 .intro _ _;trivial
 .simp [invoke,go_sem,aB]
 have az:∀{ae:Option Nat} {H:World},(∀r,ae=some r->A.heap.size<=r/\∃o:Obj,H.heap[r]?=some o/\o.isCells=false)->(∀r,ae=some r->j<=r/\∃o:Obj,H.heap[r]?=some o/\o.isCells=false):=
  fun E r e=>⟨by have:=(E r e).1;omega,(E r e).2⟩
 refine(aC (j+1) (fun pre W=>I pre W/\W.heap[j+1]?=some (.loop (q .ready none))/\W.heap[j]?=some (.deferred (some [])))
  (fun pre W=>∃c,Ix c pre W/\W.heap[j+1]?=some (.loop (q .done (some c)))/\W.heap[j]?=some (.deferred (some []))) A aO (by have:=am.size;omega)
  (fun an H B ae ao U E=>⟨T an H B ae ao.1 U (az E),uW U (fun V e=>(E V e).1) oM ao.2.1,uW U (fun V e=>(E V e).1) oM ao.2.2⟩)
  (fun an H B ae ⟨c,aP,p,X⟩ U E=>⟨c,ab c an H B ae aP U (az E),uW U (fun V e=>(E V e).1) oM p,uW U (fun V e=>(E V e).1) oM X⟩)
  ?_ ⟨aN,aL,aM⟩).mono ?_
 .rintro pre x W ⟨ah,p,X⟩ aQ;have hlt:j+1<W.heap.size:=(Array.getElem?_eq_some_iff.1 p).1;have hy:=run_yield (P:=prog) (args:=aj x) p (by rw[J];exact aE x);rw[J]at hy;refine⟨ay,_,assign,body,hy,roundIn_of_wpIn aI (aG _ x W _ ?_)⟩;clear hy;obtain⟨Y,ai⟩:=qqe (W.putObj (j+1) (.loop {q .ready none with state:=.busy}));have aR:Y.heap[j+1]?=some (.loop {q .ready none with state:=.busy}):=by rw[ai];exact World.putObj_heap_same hlt
  have aS:Y.heap[j]?=some (.deferred (some [])):=by rw[ai];exact(World.putObj_heap_other oM).trans X
  have ak:Kp W Y:=by rw[ai];exact aa _ _ _ p rfl
  have aT:I pre Y:=by rw[ai];exact T.putObj _ ah oM p rfl
  refine⟨Y,by rw[ai];exact run_beginRound p (by rw[J]),?_⟩;refine wpIn_mono (av _ pre x Y aT aQ) ?_;have fin:∀(M:Option Code) (s:World),KeepsFrom j Y s->∃R,R=s.putObj (j+1) (.loop (q (if M.isNone then .ready else .done) M))/\(Instr.endRound (j+1) M).run prog s=.ok (.bool M.isNone) R/\
    s.heap[j+1]?=some (.loop {q .ready none with state:=.busy})/\R.heap[j+1]?=some (.loop (q (if M.isNone then .ready else .done) M))/\R.heap[j]?=some (.deferred (some [])):=fun M s G=>by
   have h1:=G.same _ _ oM aR rfl;have h2:=G.same _ _ (qXp _) aS rfl;have k:=run_endRound (P:=prog) M h1;refine⟨_,rfl,?_,h1,World.putObj_heap_same (Array.getElem?_eq_some_iff.1 h1).1,(World.putObj_heap_other oM).trans h2⟩;rw[J]at k⊢;exact k
  rintro e a3 s af;cases e with
  |normal=>
   obtain⟨G,Z,a6⟩:=af;obtain⟨R,rfl,k,h1,a7,a8⟩:=fin none s G;exact⟨_,_,k,.inl ⟨rfl,⟨T.putObj _ a6 oM h1 rfl,a7,a8⟩,K (K ak Z) (aa _ _ _ h1 rfl)⟩⟩
  |ret=>
   obtain⟨G,Z,a6⟩:=af;obtain⟨R,rfl,k,h1,a7,a8⟩:=fin (some .ret) s G;exact⟨_,_,k,.inr ⟨rfl,⟨_,(ab _).putObj _ a6 oM h1 rfl,a7,a8⟩,K (K ak Z) (aa _ _ _ h1 rfl)⟩⟩
  |exit id=>
   obtain⟨G,Z,a6⟩:=af;obtain⟨R,rfl,k,h1,a7,a8⟩:=fin (some (.exit id)) s G;exact⟨_,_,k,.inr ⟨rfl,⟨_,(ab _).putObj _ a6 oM h1 rfl,a7,a8⟩,K (K ak Z) (aa _ _ _ h1 rfl)⟩⟩
  |goto t=>
   obtain⟨G,Z,a6⟩:=af;obtain⟨R,rfl,k,h1,a7,a8⟩:=fin (some (.goto t)) s G;exact⟨_,_,k,.inr ⟨rfl,⟨_,(ab _).putObj _ a6 oM h1 rfl,a7,a8⟩,K (K ak Z) (aa _ _ _ h1 rfl)⟩⟩
  |panic aX=>exact af.elim
  |outgrown=>exact af.elim
 .rintro e s ⟨⟨v,rfl⟩,⟨xs,aU,ah,p,X⟩|⟨pre,aV,c,ah,p,X⟩⟩
  .have k:=run_endLoop (P:=prog) p (by rw[J];simp);rw[J]at k;exact⟨none,_,k,aw _ xs _ (qXp _) aU (T.putObj _ ah oM p rfl) ((World.putObj_heap_other oM).trans X)⟩
  .have k:=run_endLoop (P:=prog) p (by rw[J];simp);rw[J]at k;exact⟨some c,_,k,ax _ c pre _ (qXp _) aV ((ab c).putObj _ ah oM p rfl) ((World.putObj_heap_other oM).trans X)⟩
end
abbrev zfp:=Nat×((Nat->Prop)->World->Prop)
structure Mk(own0:Nat->Nat)(w0:World)(own:Nat->Nat)(w:World)(c:Nat)(cs:List Value)(bs bl:Nat)(us ul:Array Value)(L:List zfp):Prop where
 str:w.heap[c]?=some (.cells cs.toArray 147 (0,0))
 oc:own c=1
 cn:w0.heap.size<=c
 all:∀q∈L,Thing q.2/\q.1≠1/\q.2 (fun j=>own j=q.1) w
 far:∀j,w.heap.size<=j->own j=0
 nib:Nib w
 tur:Tur w
 on:own 1=0
 ot:own 0=0
 sb:w.heap[bs]?=some (.cells us 38 (0,0))
 lb:w.heap[bl]?=some (.cells ul 62 (0,0))
 bsc:bs≠c
 blc:bl≠c
 bel:Below w0.heap.size w0 w
 old:∀j,j<w0.heap.size->own j=own0 j
 new:∀j,w0.heap.size<=j->own j<16
section
variable{own0 own:Nat->Nat}{w0 w w':World}{c bs bl:Nat}{cs:List Value}{us ul:Array Value}{L:List zfp}
theorem Mk.add(h:Mk own0 w0 own w c cs bs bl us ul L)(t:Nat)(A:t≠1/\t<16/\∀q∈L,q.1≠t){R:(Nat->Prop)->World->Prop}(D:Thing R)(E:Below w.heap.size w w')(G:R (fun j=>w.heap.size<=j) w'):
  Mk own0 w0 (grow own t w.heap.size w'.heap.size) w' c cs bs bl us ul ((t,R)::L):=by
 have p:=qqb E;have H:=zd h.str;have M:∀j,own j=t->j<w.heap.size\/t=0:=fun j k=>by
  by_cases J:j<w.heap.size
  .exact .inl J
  .exact .inr (by rw[<-k,h.far j oM])
 exact{
  str:=p.jV h.str
  oc:=(zw H).trans h.oc
  cn:=h.cn
  all:=fun q s=>by
   rcases qzm.1 s with rfl|s
   .exact ⟨D,A.1,D.out G (fun j k K=>Xc K k)⟩
   .obtain ⟨a1,a2,a3⟩:=h.all q s;exact⟨a1,a2,a1.other a3 (A.2.2 q s) (p.mono fE)⟩
  far:=fun j k=>by
   have:=p.size;unfold grow;rw[if_neg oM];exact h.far j oM
  nib:=h.nib.keep p id
  tur:=h.tur.keep p id
  on:=(zw h.nib.lt).trans h.on
  ot:=(zw h.tur.lt).trans h.ot
  sb:=p.jV h.sb
  lb:=p.jV h.lb
  bsc:=h.bsc
  blc:=h.blc
  bel:=zj h.bel p (qXp _) (fun _ h=>h.elim)
  old:=fun j k=>(zw (qXs k h.bel.size)).trans (h.old j k)
  new:=fun j k=>by
   unfold grow;split
   .exact A.2.1
   .exact h.new j k}
theorem Mk.set(h:Mk own0 w0 own w c cs bs bl us ul L)(i:Nat)(v:Value):Mk own0 w0 own (w.setCell ⟨c,i,none⟩ v) c (cs.set i v) bs bl us ul L:=by
 have k:=zi w c i v;have p:∀(q j:Nat),q≠1->own j=q->¬j=c:=fun q j s hj e=>s (by rw[<-hj,e,h.oc]);exact{
  str:=by have:=zh h.str i v;simpa using this
  oc:=h.oc
  cn:=h.cn
  all:=fun A D=>by
   obtain⟨a1,a2,a3⟩:=h.all A D;exact⟨a1,a2,a1.keep a3 k (fun j hj=>p _ j a2 hj)⟩
  far:=fun j hj=>h.far j oz
  nib:=h.nib.keep k (p _ _ de h.on)
  tur:=h.tur.keep k (p _ _ de h.ot)
  on:=h.on
  ot:=h.ot
  sb:=(k.block _ (zd h.sb) h.bsc).trans h.sb
  lb:=(k.block _ (zd h.lb) h.blc).trans h.lb
  bsc:=h.bsc
  blc:=h.blc
  bel:=zj h.bel k (qXp _) (fun j e=>e▸h.cn)
  old:=h.old
  new:=h.new}
theorem Mk.cell(h:Mk own0 w0 own w c cs bs bl us ul L)(i:Nat):w.cell? ⟨c,i,none⟩=cs[i]?:=by rw[za h.str];simp
theorem Mk.part(h:Mk own0 w0 own w c cs bs bl us ul L){t:Nat}{R:(Nat->Prop)->World->Prop}(j:(t,R)∈L):R (fun k=>own k=t) w:=(h.all _ j).2.2
end
theorem Mk.start{k:World}{bs:Nat}{us ul:Array Value}(cs:List Value)(s:Upd (fun _=>False) w0 k)
  (h2:Dv (fun j=>own0 j=2) w0 ssd dF dO dP) (S:Dv (fun j=>own0 j=3) w0 back bF bO bP) (far:∀j,w0.heap.size<=j->own0 j=0) (nib:Nib w0) (tur:Tur w0) (on:own0 1=0) (ot:own0 0=0)
  (sb:k.heap[bs]?=some (.cells us 38 (0,0))) (lb:k.heap[bl]?=some (.cells ul 62 (0,0))):
  ∃own,Mk own0 w0 own ((k.alloc (.map #[] 0)).alloc (.cells cs.toArray 147)) (k.heap.size+1) cs bs bl us ul
   [(9,fun A w=>Mp A w k.heap.size 0 (fun _=>none)),(3,fun A w=>Dv A w back bF bO bP),(2,fun A w=>Dv A w ssd dF dO dP)]:=by
 obtain⟨H,G⟩:=qqe ((k.alloc (.map #[] 0)).alloc (.cells cs.toArray 147));have T:Upd (fun _=>False) k (k.alloc (.map #[] 0)):=(uur _ k).alloc _;have K:Upd (fun _=>False) (k.alloc (.map #[] 0)) H:=by rw[G];exact(uur _ _).alloc _
 have p:=T.trans K;have U:H.heap.size=k.heap.size+2:=by rw[G];simp
 have M:=s.size;have V:=zd sb;have W:=zd lb;have X:=nib.lt;have Y:=tur.lt;have N:∀(D:Nat),D≠0->∀(E:(Nat->Prop)->World->Prop),Thing E->E (fun j=>own0 j=D) w0->E (fun j=>(if j=k.heap.size then 9 else if j=k.heap.size+1 then 1 else own0 j)=D) H:=fun D Z E J h=>by
  have h1:E (fun j=>own0 j=D/\j<w0.heap.size) w0:=J.out h (fun j q M=>⟨M,q⟩);exact J.out (J.new h1 (s.trans p)) (fun j q ⟨a,b⟩=>by rw[if_neg oM,if_neg oM];exact a)
 rw[<-G];refine⟨fun j=>if j=k.heap.size then 9 else if j=k.heap.size+1 then 1 else own0 j,?_⟩;exact{
  str:=by rw[G];exact zc _ _ oe
  oc:=by rw[if_neg oM,if_pos rfl]
  cn:=oM
  all:=fun a6 R=>by
   simp only[qzm,qzy,qYv]at R;rcases R with rfl|rfl|rfl
   .exact ⟨Mp.kD _ _ _,(by show(9:Nat)≠1;decide),(MapAt.made k).keep K id,oe⟩
   .exact ⟨Dv.kD _ _ _ _,(by show(3:Nat)≠1;decide),N 3 de _ (Dv.kD _ _ _ _) S⟩
   .exact ⟨Dv.kD _ _ _ _,(by show(2:Nat)≠1;decide),N 2 de _ (Dv.kD _ _ _ _) h2⟩
  far:=fun j q=>by rw[if_neg oM,if_neg oM];exact far j oM
  nib:=nib.keep (s.trans p) id
  tur:=tur.keep (s.trans p) id
  on:=by rw[if_neg oM,if_neg oM];exact on
  ot:=by rw[if_neg oM,if_neg oM];exact ot
  sb:=p.jV sb
  lb:=p.jV lb
  bsc:=oM
  blc:=oM
  bel:=Upd.below (s.trans p)
  old:=fun j q=>by rw[if_neg oM,if_neg oM]
  new:=fun j q=>by
   split
   .decide
   .split
    .decide
    .rw [far j q];decide}
theorem zaE(n s:Nat)(w:World)(h1:1<=n)(h2:n<=4096)(k:1<=s)(p:s<=1024):
  Calls prog 108 #[.int .i64 n,.int .i64 s] w fun e w'=>∃b,e=.returned (.tuple #[ptr b,.int .i64 0])/\Ix (fun j=>w.heap.size<=j) w' b 0 (List.replicate n (-1,false)) s/\Below w.heap.size w w':=
 (AU n s w h1 h2 k p).mono fun _ _ ⟨b,v,mb,q,A,D,E,G,H⟩=>⟨b,q,⟨v,mb,A,D,fun j h=>by rcases h with h|h;exact G j h;exact h▸E⟩,H⟩
theorem zaF(n:Nat)(w:World)(h1:1<=n)(h2:n<=1024):
  Calls prog 109 #[.int .i64 n] w fun e w'=>∃b,e=.returned (.tuple #[ptr b,.int .i64 0])/\Ss (fun h=>w.heap.size<=h) w' b (List.replicate n 0)/\Below w.heap.size w w':=
 (AM n w h1 h2).mono fun _ _ ⟨j,k,p,_⟩=>⟨_,j,⟨_,k,by show _<=_;omega,fun h q=>by simp[Value.ownBlock]at q;show _<=_;omega⟩,p⟩
def ca0(n:CaN)(ssd back wh sm:Nat):List Value:=
 n.C++(layC n.sl n.jo n.pa n.lo++[ptr ssd,ptr back,.int .i64 (wh:Int),.pointer none,.pointer none,.pointer none,.pointer none,.pointer none,.map (some sm)])
theorem qn{h:Array Oper}{rest:List Oper}{op:Oper}{a:Act}{Q:Exit->Act->World->Prop}(j:op.guard=none)(p q r s t u:Operand)(k:op.op=.build 147 #[(0,p),(1,q),(2,r),(3,s),(4,t),(10,u)])
  (n:CaN) (ssd back wh sm:Nat) (A:a.eval p=.agg n.C.toArray) (D:a.eval q=.agg (layC n.sl n.jo n.pa n.lo).toArray) (E:a.eval r=ptr ssd) (G:a.eval s=ptr back) (H:a.eval t=.int .i64 (wh:Int)) (J:a.eval u=.map (some sm)) (L:Array Value) (K:L=(ca0 n ssd back wh sm).toArray)
  (M:wpList prog h Q rest (a.put op.dst (.agg L)) w):wpList prog h Q (op::rest) a w:=by
 have N:(Instr.build 147 #[(0,.agg n.C.toArray),(1,.agg (layC n.sl n.jo n.pa n.lo).toArray),(2,ptr ssd),(3,ptr back),(4,.int .i64 (wh:Int)),(10,.map (some sm))]).run prog w=.ok (.agg L) w:=by
  rw[K];kernel_rfl
 refine qZb j fun R P=>?_;unfold Oper.wp;simp only[execOp,k,qzk,qzh,qzj,A,D,E,G,H,J,qYg,N,qYf];exact P _ _ M
theorem CaN.C_one(n:CaN):∀v∈n.C,v.oneCell'=true:=by
 intro v h;simp only[CaN.C,qzm,qzy,qYv]at h;rcases h with rfl|rfl|rfl|rfl|rfl|rfl|rfl<;>rfl
theorem uX(sl j k p:Nat):∀v∈layC sl j k p,v.oneCell'=true:=by
 intro v h;simp only[qzm,qzy,qYv]at h;rcases h with rfl|rfl|rfl|rfl|rfl|rfl|rfl<;>rfl
def caS0(n:CaN)(wh seq:Nat)(dF:List Bk)(dO:List (Nat×Bk))(dP:List Int)(bF:List Bk)(bO:List (Nat×Bk))(bP:List Int):CaS:=
 ⟨wh,dF,dO,dP,bF,bO,bP,seq,seq+1,[],0,List.replicate n.bl (-1,false),List.replicate n.sl 0,List.replicate n.sl Vn,0,[],fun _=>false,[],0,fun _=>none⟩
def Yd(own0:Nat->Nat)(w:World)(ssd back:Nat)(n:CaN)(a:CaS)(e:Ending)(w':World):Prop:=
 ∃c p own',e=.returned (.tuple #[ptr c,.int .i64 0])/\p.ssd=ssd/\p.back=back/\CaAt own' w' c n p a/\Did own0 own' w w'
theorem Mk.ca{own:Nat->Nat}{c bs sm k p q s A:Nat}{us ul:Array Value}{n:CaN}{wh seq:Nat}
  (h:Mk own0 w0 own w c ((((((ca0 n ssd back wh sm).set 17 (ptr k)).set 18 (ptr p)).set 19 (ptr q)).set 20 (ptr s)).set 21 (ptr A)) bs bl us ul
   [(8,fun j w=>Ck j w A 0 n.sl n.sl [] (fun _=>false) []),(7,fun j w=>Lg j w s n.bl (List.replicate n.sl (fun _=>false))),(6,fun j w=>Ss j w q (List.replicate n.sl 0)),(5,fun j w=>Ix j w p 0 (List.replicate n.bl (-1,false)) n.sl),
    (4,fun j w=>Jn j w k ssd (1+2*n.pa) n.jo seq (seq+1) []),(9,fun j w=>Mp j w sm 0 (fun _=>none)),(3,fun j w=>Dv j w back bF bO bP),(2,fun j w=>Dv j w ssd dF dO dP)])
  (D:n.Ok) (fl:dF.length=n.size) (gl:bF.length=n.bl) (E:wh<=1):
  CaAt own w c n ⟨ssd,back,k,p,q,s,A,sm⟩ {caS0 n wh seq dF dO dP bF bO bP with G:=List.replicate n.sl (fun _=>false)}where
 str:=h.str
 oc:=h.oc
 ok:=D
 ssd:=h.part (t:=2) (R:=fun j w=>Dv j w ssd dF dO dP) oe
 back:=h.part (t:=3) (R:=fun j w=>Dv j w back bF bO bP) oe
 jr:=h.part (t:=4) (R:=fun j w=>Jn j w k ssd (1+2*n.pa) n.jo seq (seq+1) []) oe
 ix:=h.part (t:=5) (R:=fun j w=>Ix j w p 0 (List.replicate n.bl (-1,false)) n.sl) oe
 ss:=h.part (t:=6) (R:=fun j w=>Ss j w q (List.replicate n.sl 0)) oe
 lg:=h.part (t:=7) (R:=fun j w=>Lg j w s n.bl (List.replicate n.sl (fun _=>false))) oe
 ck:=h.part (t:=8) (R:=fun j w=>Ck j w A 0 n.sl n.sl [] (fun _=>false) []) oe
 sm:=h.part (t:=9) (R:=fun j w=>Mp j w sm 0 (fun _=>none)) oe
 far:=h.far
 nib:=h.nib
 tur:=h.tur
 on:=h.on
 ot:=h.ot
 fl:=fl
 gl:=gl
 pl:=by simp[caS0]
 sl:=by simp[caS0]
 Gl:=oe
 wh:=E
theorem zfq{n:CaN}(h2:Dv (fun H=>own0 H=2) w ssd dF dO dP)(Z:Dv (fun H=>own0 H=3) w back bF bO bP)
  (far:∀H,w.heap.size<=H->own0 H=0) (nib:Nib w) (tur:Tur w) (on:own0 1=0) (ot:own0 0=0) (a6:n.Ok) (fl:dF.length=n.size) (gl:bF.length=n.bl) (wh seq:Nat) (br:wh<=1) (bt:seq<1099511627776)
  (ao:Option Addr) (ln lc:Nat) (a':CaS) (aZ:∀(own:Nat->Nat) (W:World) (c:Nat) (p:CaP),Did own0 own w W->CaAt own W c n p {caS0 n wh seq dF dO dP bF bO bP with G:=List.replicate n.sl (fun _=>false)}->Calls prog 112 #[ptr c,.slice ao ln lc] W (zx own W c n p a' (.int .i64 0))):
  Calls prog 66 #[.agg n.C.toArray,ptr ssd,ptr back,.int .i64 (wh:Int),.int .i64 (seq:Int),.slice ao ln lc] w (Yd own0 w ssd back n a'):=by
 have bu:=qqh aZ;clear aZ;obtain⟨ap,M⟩:=qqe (n.C);obtain⟨ag,N⟩:=qqe (layC n.sl n.jo n.pa n.lo);obtain⟨w1,aq⟩:=qqe (w.alloc (.cells ap.toArray 38));have a7:=qqg aq;have ab:=qqu aq;have aP:w1.rangeAt w.heap.size 0 ap:=zf a7;have b0:(prog.info? 38).map (·.size)=some ap.length:=by rw[M];exact xt
 have bv:Hid (Calls prog 16 #[.agg ap.toArray] w1 fun e w'=>e=.returned (.tuple #[.agg ag.toArray,.int .i64 0])/\Below w1.heap.size w1 w'):=by
  show Calls _ _ _ _ _;rw[M,N];obtain⟨az,aA,ah,ad,b1,aQ,b2,b3,a1,a2,b4,b5,z⟩:=a6;exact uG n.id n.bl n.sl n.jo n.pa n.lo n.ba az aA ah ad b1 aQ b2 b3 a1 a2 b4 b5 z w1
 rw[<-M];have b6:=Y14 h2 Z far nib tur on ot a6 fl gl M N a7 ab;rw[aq]at aP;have bx:=qqh aq;have aR:=Y2 aP b0;clear h2 Z far nib tur on ot a6 fl gl M N a7 ab aP b0 aq;go_enter func66,ntmps66
 go_wp2_with (first
  |(refine qZa rfl _ _ rfl _ _ rfl _ _ aR.o.1 underlying38 rfl aR.o.2 ?_)
  |fail)
 rw[<-bx.o];refine bv.out.mono ?_;rintro e ae ⟨rfl,b7⟩;obtain⟨h2,Z,far,nib,tur,on,ot,a6,fl,gl,M,N,a7,ab⟩:=b6.o;obtain⟨J,aB⟩:=qqe (ae.alloc (.cells ag.toArray 62));have aS:=qqb b7;have aT:=qqu aB;have ai:=qqg aB;have aj:=(aS.trans aT).jV a7;have af:=(ab.trans aS).trans aT;have aU:ag.length=7:=by rw[N];rfl
 have b8:∀v∈ag,v.oneCell'=true:=by rw[N];exact uX _ _ _ _
 have b9:Hid ((prog.info? 62).map (·.size)=some ag.length):=by show _=_;rw[aU];exact xh
 have ar:=(Dv.kD _ _ _ _).new h2 af;have au:=(Dv.kD _ _ _ _).new Z af;have aC:J.cell? ⟨ae.heap.size,6,none⟩=some (.int .i64 (n.size:Int)):=by
  rw[za ai,N];simp[layC,CaN.size]
 have aD:J.cell? ⟨w.heap.size,1,none⟩=some (.int .i64 (n.bl:Int)):=by
  rw[za aj,M];simp[CaN.C]
 have bb:∀T,Calls prog 55 #[ptr ssd] (J.drewN T) fun e w'=>e=.returned (.int .i64 (n.size:Int))/\w'=J.drewN T:=fun T=>by
  have:=tT ((Dv.kD _ _ _ _).new ar ((uur (fun _=>False) J).drewN T));rw[fl]at this;exact this
 have bc:∀T,Calls prog 55 #[ptr back] (J.drewN T) fun e w'=>e=.returned (.int .i64 (n.bl:Int))/\w'=J.drewN T:=fun T=>by
  have:=tT ((Dv.kD _ _ _ _).new au ((uur (fun _=>False) J).drewN T));rw[gl]at this;exact this
 have bz:=Y5 af ai aj ar au;have aE:=Y4 aU b8 bb bc;clear h2 Z far nib tur on ot a6 fl gl M N a7 ab b7 aS aT ai aj af aU b8 ar au bb bc;have bA:=qqh aB;clear aB;have bB:=Y2 aC aD;clear aC aD;go_wp2_with (first
  |(refine zk rfl _ _ _ rfl _ _ _ rfl rfl (by rw[aE.o.1];rfl) b9.out aE.o.2.1 ?_)
  |fail)
 rw[<-bA.o];obtain⟨aC,aD⟩:=bB.o
 go_quiet((go_at_call 55;(first|with_reducible exact Calls.quiet_of_same (aE.o.2.2.1 _)|with_reducible exact Calls.quiet_of_same (aE.o.2.2.2 _))))
 clear aC aD;obtain⟨h2,Z,far,nib,tur,on,ot,a6,fl,gl,M,N,a7,ab⟩:=b6.o;obtain⟨af,ai,aj,ar,au⟩:=bz.o;have aF:Upd (fun _=>False) J (J.drewN nq):=(uur _ J).drewN nq;have bd:=af.trans aF;have aV:=aF.jV ai;have aW:=aF.jV aj;generalize J.drewN nq=a8 at*;obtain⟨L,be⟩:=qqe (ca0 n ssd back wh a8.heap.size);obtain⟨bZ,bf⟩:=Mk.start L bd h2 Z far nib tur on ot aW aV;have bg:=zf aW;have bh:=zf aV;have bC:Upd (fun _=>False) a8 (a8.alloc (.map #[] 0)):=(uur _ a8).alloc _;have aa:=Y2 be bf;have aX:=Y2 bg bh;have bi:=qqh a6;have bj:=qqh fl;have bD:=qqh gl;have K:=Y2 M N;have bE:= @run_makeMap prog;clear h2 Z far nib tur on ot a6 fl gl M N a7 ab af ai aj ar au aF bd aV aW bg bh bC bf be;rcases(show wh=0\/wh=1 by omega)with rfl|rfl
 all_goals
  go_upto_region 11 with(first
   |(refine qZa rfl _ _ rfl _ _ rfl _ _ aX.o.1 underlying38 rfl aR.o.2 ?_)
   |(refine qZa rfl _ _ rfl _ _ rfl _ _ aX.o.2 underlying62 rfl b9.out ?_)
   |(refine qn rfl _ _ _ _ _ _ rfl n ssd back _ a8.heap.size (by show Value.agg ap.toArray=_;rw[K.o.1]) (by show Value.agg ag.toArray=_;rw[K.o.2]) oA oA oA oA L.toArray (by rw[aa.o.1]) ?_)
   |fail)
  have bG:=qqh (zd aa.o.2.str);obtain⟨c,bk⟩:=qqe (a8.heap.size+1);rw[<-bk]at aa⊢;have av:=aa.o.2;have bH:=aa.o.1;generalize (a8.alloc (.map #[] 0)).alloc (.cells L.toArray 147)=aw at*;generalize bI:a8.heap.size=sm at*;clear bk aa bG bE bI aX;subst bH;obtain⟨az,aA,ah,ad,b1,aQ,b2,b3,a1,a2,b4,b5,z⟩:=bi.o;have j:=za av.sb;have q:=za av.lb;rw[K.o.1]at j;rw[K.o.2]at q;have q1:aw.cell? ⟨w.heap.size,1,none⟩=some (.int .i64 (n.bl:Int)):=j 1;have q2:aw.cell? ⟨w.heap.size,2,none⟩=some (.int .i64 (n.sl:Int)):=j 2;have U:aw.cell? ⟨w.heap.size,3,none⟩=some (.int .i64 (n.jo:Int)):=j 3;have V:aw.cell? ⟨ae.heap.size,1,none⟩=some (.int .i64 (1+2*(n.pa:Int))):=q 1;have s:=qqh (Sh (S:=fun H=>aw.heap.size<=H) (av.part (t:=2) (R:=fun bJ w=>Dv bJ w ssd dF dO dP) oe) (fun _ h=>h) (1+2*n.pa) n.jo seq oM aQ (by rw[bj.out];unfold CaN.size;omega) bt);have X:=qqh av;clear j q av;go_wp2_with fail
  try rw[show(1+2*(n.pa:Int))=((1+2*n.pa:Nat):Int) by simp]
  refine s.o.mono ?_;rintro e Y ⟨aG,rfl,A,-,D⟩;have k:=X.o.add 4 oe (Jn.kD aG ssd (1+2*n.pa) n.jo seq (seq+1) []) D A;have bK:=k.cell 17;have bL:=zg k.str 17;have E:=qqh k;clear A D k q1 q2 U V;go_upto_region 14 with fail
  have aH:=E.o.set 17 (ptr aG);generalize Y.setCell ⟨c,17,none⟩ (ptr aG)=ax at*;clear s E bK bL;have j:=za aH.sb;have q:=za aH.lb;rw[K.o.1]at j;rw[K.o.2]at q;have q1:ax.cell? ⟨w.heap.size,1,none⟩=some (.int .i64 (n.bl:Int)):=j 1;have q2:ax.cell? ⟨w.heap.size,2,none⟩=some (.int .i64 (n.sl:Int)):=j 2;have U:ax.cell? ⟨w.heap.size,3,none⟩=some (.int .i64 (n.jo:Int)):=j 3;have V:ax.cell? ⟨ae.heap.size,1,none⟩=some (.int .i64 (1+2*(n.pa:Int))):=q 1;have s:=qqh (zaE n.bl n.sl ax az aA ah ad);have X:=qqh aH;clear j q aH;go_wp2_with fail
  try rw[show(1+2*(n.pa:Int))=((1+2*n.pa:Nat):Int) by simp]
  refine s.o.mono ?_;rintro e Y ⟨aI,rfl,A,D⟩;have k:=X.o.add 5 oe (Ix.kD aI 0 (List.replicate n.bl (-1,false)) n.sl) D A;have bM:=k.cell 18;have bN:=zg k.str 18;have E:=qqh k;clear A D k q1 q2 U V;go_upto_region 17 with fail
  have aJ:=E.o.set 18 (ptr aI);generalize Y.setCell ⟨c,18,none⟩ (ptr aI)=ay at*;clear s E bM bN;have j:=za aJ.sb;have q:=za aJ.lb;rw[K.o.1]at j;rw[K.o.2]at q;have q1:ay.cell? ⟨w.heap.size,1,none⟩=some (.int .i64 (n.bl:Int)):=j 1;have q2:ay.cell? ⟨w.heap.size,2,none⟩=some (.int .i64 (n.sl:Int)):=j 2;have U:ay.cell? ⟨w.heap.size,3,none⟩=some (.int .i64 (n.jo:Int)):=j 3;have V:ay.cell? ⟨ae.heap.size,1,none⟩=some (.int .i64 (1+2*(n.pa:Int))):=q 1;have s:=qqh (zaF n.sl ay ah ad);have X:=qqh aJ;clear j q aJ;go_wp2_with fail
  try rw[show(1+2*(n.pa:Int))=((1+2*n.pa:Nat):Int) by simp]
  refine s.o.mono ?_;rintro e Y ⟨aK,rfl,A,D⟩;have k:=X.o.add 6 oe (Ss.kD aK (List.replicate n.sl 0)) D A;have bQ:=k.cell 19;have bR:=zg k.str 19;have E:=qqh k;clear A D k q1 q2 U V;go_upto_region 20 with fail
  have aL:=E.o.set 19 (ptr aK);generalize Y.setCell ⟨c,19,none⟩ (ptr aK)=ak at*;clear s E bQ bR;have j:=za aL.sb;have q:=za aL.lb;rw[K.o.1]at j;rw[K.o.2]at q;have q1:ak.cell? ⟨w.heap.size,1,none⟩=some (.int .i64 (n.bl:Int)):=j 1;have q2:ak.cell? ⟨w.heap.size,2,none⟩=some (.int .i64 (n.sl:Int)):=j 2;have U:ak.cell? ⟨w.heap.size,3,none⟩=some (.int .i64 (n.jo:Int)):=j 3;have V:ak.cell? ⟨ae.heap.size,1,none⟩=some (.int .i64 (1+2*(n.pa:Int))):=q 1;have s:=qqh (zal (S:=fun H=>ak.heap.size<=H) n.sl n.bl ak (fun _ h=>h) ah ad az aA);have X:=qqh aL;clear j q aL;go_wp2_with fail
  try rw[show(1+2*(n.pa:Int))=((1+2*n.pa:Nat):Int) by simp]
  refine s.o.mono ?_;rintro e Y ⟨aM,rfl,A,D,-⟩;have k:=X.o.add 7 oe (Lg.kD aM n.bl (List.replicate n.sl (fun _=>false))) D A;have bS:=k.cell 20;have bT:=zg k.str 20;have E:=qqh k;clear A D k q1 q2 U V;go_upto_region 23 with fail
  have aN:=E.o.set 20 (ptr aM);generalize Y.setCell ⟨c,20,none⟩ (ptr aM)=am at*;clear s E bS bT;have j:=za aN.sb;have q:=za aN.lb;rw[K.o.1]at j;rw[K.o.2]at q;have q1:am.cell? ⟨w.heap.size,1,none⟩=some (.int .i64 (n.bl:Int)):=j 1;have q2:am.cell? ⟨w.heap.size,2,none⟩=some (.int .i64 (n.sl:Int)):=j 2;have U:am.cell? ⟨w.heap.size,3,none⟩=some (.int .i64 (n.jo:Int)):=j 3;have V:am.cell? ⟨ae.heap.size,1,none⟩=some (.int .i64 (1+2*(n.pa:Int))):=q 1;have s:=qqh (zab (S:=fun H=>am.heap.size<=H) n.sl n.sl am ah ad ad (fun _ h=>h));have X:=qqh aN;clear j q aN;go_wp2_with fail
  try rw[show(1+2*(n.pa:Int))=((1+2*n.pa:Nat):Int) by simp]
  refine s.o.mono ?_;rintro e Y ⟨aO,rfl,A,-,D⟩;have k:=X.o.add 8 oe (Ck.kD aO 0 n.sl n.sl [] (fun _=>false) []) D A;have bU:=k.cell 21;have bV:=zg k.str 21;have E:=qqh k;clear A D k q1 q2 U V;go_upto_region 26 with fail
  have an:=E.o.set 21 (ptr aO);generalize Y.setCell ⟨c,21,none⟩ (ptr aO)=bW at*;clear s E bU bV;have bn:=an.ca bi.o bj.out bD.out br;have aY:Did own0 _ w bW:=⟨(uuo an.bel),an.old,an.new,an.far⟩
  have aa:=qqh (bu.out _ _ _ _ aY bn);have bX:=qqh aY;clear bn aY an;go_wp2_with fail
  refine aa.o.mono ?_;rintro e c0 ⟨rfl,bY,bo,bp⟩;have bq:=Y2 bo (bX.o.trans bp);clear bo bp;go_wp2
  go_ret2
  exact⟨c,⟨ssd,back,aG,aI,aK,aM,aO,sm⟩,bY,rfl,rfl,rfl,bq.o.1,bq.o.2⟩
def yY(F:List Bk)(O:List (Nat×Bk))(l:List Bool):List Bk:=(l.zip O).foldl (fun F p=>if p.1=true then F.set p.2.1 p.2.2 else F) F
theorem Je{α:Type}{O:List α}{k:Nat}(h:k<l.length)(j:l.length<=O.length):(l.take (k+1)).zip O=(l.take k).zip O++[(l[k],O[k]'oM)]:=by
 induction l generalizing O k with
 |nil=>simp at h
 |cons a l p=>
  cases O with
  |nil=>simp at j
  |cons o O=>
   cases k with
   |zero=>simp
   |succ k=>
    have:=p (O:=O) (k:=k) (by simpa using h) (by simpa using j);simp only[List.take_succ_cons,List.zip_cons_cons,qxy,qyr];rw[this]
theorem XK{k:Nat}(h:k<l.length)(j:l.length<=O.length):
  yY F O (l.take (k+1))=if l[k]=true then(yY F O (l.take k)).set (O[k]'oM).1 (O[k]'oM).2 else yY F O (l.take k):=by
 unfold yY;rw[Je h j,List.foldl_append];rfl
theorem yZ(F:List Bk)(O:List (Nat×Bk))(l:List Bool):(yY F O l).length=F.length:=by
 unfold yY
 induction l.zip O generalizing F with
 |nil=>rfl
 |cons j L h=>
  simp only[List.foldl_cons];rw[h];split<;>simp
abbrev zcd(l:List Bool):List Value:=l.map Value.bool
theorem DvGood.crashed{P:List Int}(h:DvGood F O P):DvGood F [] []:={h with o64:=oe,ol:=oe,pl:=by simp}
theorem Jf{S:Nat->Prop}{P:List Int}(h:Dv S w b F O P){ak:Value}(a6:Rd w 1 ak l.length (zcd l))(aD:l.length<=O.length):
  Calls prog 89 #[.pointer (some ⟨b,0,none⟩),ak] w fun e w'=>∃am,e=.returned (.tuple #[.pointer (some ⟨am,0,none⟩),.int .i64 0])/\Dv (fun k=>w.heap.size<=k) w' am (yY F O l) [] []/\Below w.heap.size w w':=by
 obtain⟨b2,b3,b4,h,-⟩:=h;obtain⟨aE,c1,-⟩:=h.c;obtain⟨aF,an,rfl⟩:=h.os.rd.jW;obtain⟨b5,ck,rfl⟩:=a6.jW;have b6:=h.good.ol;have b7:b<w.heap.size:=zd h.str;have aG:=qqh (Xy h.fs.rd (by have:=h.good.fl;omega) (Qu F));have ab:=Y2 h a6;have b8:(l.length:Int)<=(O.length:Int):=oM;clear h a6;go_enter func89,ntmps89
 go_wp2_with fail
 refine aG.out.mono ?_;rintro e w1 ⟨b9,rfl,M,ad,a7⟩;obtain⟨a1,H,rfl⟩:=M.rd.jW;have ao:=uuo (S:=fun _=>False) a7;have U:=Y3 M ad a7;clear M ad a7 aE;obtain⟨V,W⟩:=qqe (w1.alloc (.cells #[(.slice a1 F.length H),.slice none 0 0,.slice none 0 0] 79));have aH:=qqh W;have ap:DvAt V w1.heap.size (.slice a1 F.length H) (.slice none 0 0) (.slice none 0 0) F [] []:=by
  have aI:Upd (fun _=>False) w1 V:=by rw[W];exact(uur _ _).alloc _
  obtain⟨M,ad,a7⟩:=U.o;exact⟨by rw[W];exact zc _ _ rfl,M.keep aI (fun _ _ h=>h),Sl.nil _ _ _,Sl.nil _ _ _,ab.o.1.good.crashed,fun e=>by have:=M.lt e;omega,(by simp[Value.ownBlock]),(by simp[Value.ownBlock]),(Dis.nil _ _ _).symm,(Dis.nil _ _ _).symm,Dis.nil _ _ _⟩
 have aq:Upd (fun _=>False) w V:=by rw[W];exact ao.alloc _
 have ar:=Y2 ap aq;clear ao ap aq W;go_wp2
 rw[<-aH.o];go_loopw[28] (fun i wr=>∃j:Nat,j<=l.length/\i=.int .i64 j/\DvAt wr w1.heap.size (.slice a1 F.length H) (.slice none 0 0) (.slice none 0 0) (yY F O (l.take j)) [] []/\Upd (fun k=>(Value.slice a1 F.length H).ownBlock=some k) V wr)
  (fun i _=>l.length-(intOf i).toNat)
 case atStart=>exact⟨0,qXz _,rfl,ar.o.1,uur _ _⟩
 case round=>
  obtain⟨j,a6,rfl,D,N⟩:=hrel;have R:∀k,(Value.slice a1 F.length H).ownBlock=some k->w.heap.size<=k:=fun k E=>U.o.2.1 k E;have X:Upd (fun k=>w.heap.size<=k) w wr:=(ar.o.2.mono fE).trans (N.mono (fun k _ E=>R k E));have G:Below w.heap.size w wr:=Upd.below ((uur (fun _=>False) w).new X (fun i ba a8=>oM));by_cases hlt:j<l.length
  .have au:=ab.o.2.below G;obtain⟨bb,bc,bd,p,-,av⟩:=au.at oM;cases p;have aw:=av j (.bool l[j]) (by rw[qym,qyj hlt];rfl);have ae:=XK (F:=F) hlt aD;obtain⟨t,ax⟩:=qqe (l[j]);rw[<-ax]at aw ae;have af:=qqh ae;clear av ae au ax;cases t with
   |false=>
    have Y:=Y2 D N;clear D N X R G;go_wp2
    go_roundw
    case rel=>exact⟨j+1,oM,by go_num,by rw[af.o];exact Y.o.1,Y.o.2⟩
    case measure=>simp[intOf];omega
   |true=>
    have ay:j<O.length:=oM;have ag:=ab.o.1;obtain⟨J,T,aJ,p,aK,aL,ah⟩:=ag.opRange ay;obtain⟨rfl,rfl⟩:aF=some ⟨J,T,none⟩/\an=aJ:=by injection p with p _ aa;exact⟨p,aa⟩
    clear p;have az:=ag.good.o64 O[j] (qyu ay);obtain⟨q,x,aM⟩:∃q x,O[j]=(q,x):=⟨_,_,rfl⟩
    rw[aM]at az ah af;obtain⟨hx,a8⟩:=az;obtain⟨A,K,be,p,aN,aO,aP,aQ⟩:=D.kx (show q<(yY F O (l.take j)).length by rw[yZ];exact a8);have bf:=G.size;have q1:=X.jU c1 oM;have q2:=(uuo (S:=fun _=>False) G).range ah id;have aR:wr.rangeAt J (T+j*65+1) (bkC x):=fun k v hv=>by
     have:=q2 (1+k) v ji;rw[<-this];congr 2;omega
    have aS:wr.cell? ⟨J,T+j*65,none⟩=some (.int .i64 (q:Int)):=q2 0 _ rfl;obtain⟨aA,-,-⟩:=D.c;have bg:¬J=A:=fun e=>by have:=R A (by rw[p]at*;simp[Value.ownBlock]);omega
    have bh:¬b=A:=fun e=>by have:=R A (by rw[p]at*;simp[Value.ownBlock]);omega
    have aT:¬w1.heap.size=A:=fun e=>by have:=U.o.1.lt (g:=A) (by rw[p];simp[Value.ownBlock]);omega
    have ai:=Y2 D N;have aU:=qqh p;have bi:=underlying54;have bj:=zv x hx;have bk:(bkC x).length=64:=by rw[zn,hx]
    have bn:=zu x;rw[yZ]at p;cases p;have bo:0<=(q:Int):=oM;have bp:(q:Int)<F.length:=oM;have bq:(j:Int)<O.length:=oM;obtain⟨m,aj⟩:=qqe (w1.heap.size);rw[<-aj]at aA aT⊢;have aV:=qqh aj;clear D N X R G ah q2 aQ aP ag aK aN aj aO aL;have aW:=(ai.o.1.kx (show q<(yY F O (l.take j)).length by rw[yZ];exact a8))
    obtain⟨br,bt,bu,aa,-,-,-,aX⟩:=aW;have aY:=aU.out.symm.trans aa;cases aY;clear aa;go_upto_region 10 with fail
    clear aw
    go_region_held3 (fun Z=>Z.cell? ⟨m,0,none⟩=some (.slice (some ⟨A,K,none⟩) F.length H)/\Z.cell? ⟨b,1,none⟩=some (.slice (some ⟨J,T,none⟩) O.length an)/\Z.cell? ⟨J,T+j*65,none⟩=some (.int .i64 (q:Int))/\Z.rangeAt J (T+j*65+1) (bkC x)/\Z.there A (K+q*64) 64)
     ((go_split_ands;(simp only[qYk,World.there_drew,qYi]at*);((repeat' constructor)<;>first|assumption|(apply World.there_setCells;assumption)|(refine zD ?_ ?_<;>assumption)|(refine World.rangeAt_setCells_apart jM _ _ _ oM))))
     (fail)
    rename_i aZ
    clear aZ q1 aR aS aA aX;have aB:DvAt (wr.drew.setCells A (K+q*64) (bkC x)) w1.heap.size (.slice (some ⟨A,K,none⟩) F.length H) (.slice none 0 0) (.slice none 0 0) (yY F O (l.take (j+1))) [] []:=by
     have h2:=ai.o.1.new ((uur (fun _=>False) _).drew);rw[<-yZ F O (l.take j)]at h2;have:=h2.setFirm (s:=q) (x:=x) (by rw[yZ];exact a8) hx;rw[yZ]at this;rw[af.o,if_pos rfl];exact this
    have aC:Upd (fun k=>(Value.slice (some ⟨A,K,none⟩) F.length H).ownBlock=some k) V (wr.drew.setCells A (K+q*64) (bkC x)):=
     ai.o.2.drew.trans ((zo wr.drew A (K+q*64) (bkC x)).mono (fun k _ e=>by simp[Value.ownBlock,e]))
    have Y:=Y2 aB aC;clear aB aC;go_wp2
    go_roundw
    case rel=>exact⟨j+1,oM,by go_num,by rw[aV.o];exact Y.o.1,Y.o.2⟩
    case measure=>simp[intOf];omega
  .obtain rfl:j=l.length:=oM;rw[List.take_length]at D;have b0:=Y2 D G;clear D X N R G;go_wp2
   go_ret2
   obtain⟨D,G⟩:=b0.o;have b1:=U.o.2.2.size;refine⟨w1.heap.size,rfl,⟨_,_,_,D,?_⟩,G⟩;rintro k (rfl|E|E|E)
   .exact b1
   .exact U.o.2.1 k E
   .cases E
   .cases E
end Go.Proofs.YtbnpkobbnjihjaaGreatDoor
