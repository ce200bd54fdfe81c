/- A block of one -/
import Derived.Test.YtpejdgiccaijfaaGreatDoorG25
set_option maxRecDepth 100000
set_option maxHeartbeats 2000000
namespace Go.Proofs.YtpejdgiccaijfaaGreatDoor
open Go Go.RowKit Tryz
variable{k:Nat}
theorem EC(l:Bk)(i:Nat)(v:Nat)(hv:v<=255):(bkC l).toArray.setIfInBounds i (.int .u8 (v:Int))=(bkC (l.set i (UInt8.ofNat v))).toArray:=by
 have:Go.Extern.Stop.cell (UInt8.ofNat v)=.int .u8 (v:Int):=by
  simp only[Go.Extern.Stop.cell]
  congr 1
  simp[UInt8.toNat_ofNat'];omega
 rw[<-this];apply Array.toList_inj.1;simp[bkC,List.map_set]
def smN(bl sl jo:Nat):CaN:=⟨7,bl,sl,jo,(sl-1)/4+1,2,3⟩
theorem RA(bl sl b:Nat)(D:1<=sl)(H:sl<=100)(w:World):Calls prog 23 #[.int .i64 (bl:Int),.int .i64 (sl:Int),.int .i64 (b:Int)] w fun e n=>e=.returned (.agg (smN bl sl b).C.toArray)/\Below w.heap.size w n:=by
 obtain⟨q,s⟩:=qqe ((sl-1)/4+1);have E:Hid (∀w,Calls prog 31 #[.int .i64 (sl:Int)] w fun e n=>e=.returned (.int .i64 (q:Int))/\w=n):=by
  intro w;rw[s];exact need_any sl D oM w
 have F:Hid ((smN bl sl b).C=superC 7 (bl:Int) (sl:Int) (b:Int) (q:Int) 2 3):=by
  show _=_;unfold smN CaN.C;rw[<-s];rfl
 rw[F.o];clear s;obtain⟨j,a⟩:=qqe (superC 7 (bl:Int) (sl:Int) (b:Int) (q:Int) 2 3);have h1:∀G∈j,G.oneCell'=true:=by rw[a];exact VB _ _ _ _ _ _ _
 have v:j.length=7:=by rw[a];rfl
 have A:(prog.info? 44).map (·.size)=some j.length:=by rw[v];exact xB
 have p:=Y3 v A h1;clear v A h1;replace a:=qqh a;have J:max (1:Int) (min (sl:Int) 100)=(sl:Int):=oM;rcases(show sl=1\/2<=sl by omega)with rfl|h2
 all_goals
  (try simp only[Int.natCast_one]at*)
  go_enter func23,ntmps23
  go_wp2_with (first
   |(go_at_call 31;refine(E.o _).mono ?_;rintro e n ⟨rfl,rfl⟩)
   |(refine zk rfl _ _ _ rfl _ _ j rfl (by rw[a.out];rfl) (by rw[p.o.1];rfl) p.o.2.1 p.o.2.2 ?_)
   |fail)
  exact qYq (zq rfl _ _ w.heap.size 0 j _ rfl (zg (zc w _ rfl)) underlying44 rfl p.o.2.1) rfl ⟨by rw[a.out],(qxl _ w).alloc (qXp _) _⟩
theorem ED(bl sl a:Nat)(h1:1<=bl)(h2:bl<=12)(b:1<=sl)(j:sl<=8)(n:4<=a)(p:a<=12):(smN bl sl a).Ok:=by
 have q:(sl-1)/4<=1:=oM;constructor<;>simp only[smN,CaN.size]<;>omega
def xz(b f:Int):Bk:=if f=0 then zB else(List.range 64).map fun(i:Nat)=>UInt8.ofNat ((31*b+7*f+(i:Int))%256).toNat
theorem zbd(b f:Int)(i:Nat):IntKind.u8.wrap (IntKind.i64.wrap (IntKind.i64.wrap (IntKind.i64.wrap (31*b)+IntKind.i64.wrap (7*f))+(i:Int)))=(31*b+7*f+(i:Int))%256:=by
 simp only[IntKind.wrap_i64,IntKind.wrap_u8];omega
theorem xg(b f:Int):(xz b f).length=64:=by
 unfold xz;split
 .rfl
 .simp
theorem RB(b f:Int)(a:f≠0){i:Nat}(h:i<64):((xz b f).getD i 0).toNat=((31*b+7*f+(i:Int))%256).toNat:=by
 unfold xz;rw[if_neg a,qyg,qyn,List.getElem?_range h];show(UInt8.ofNat _).toNat=_;simp;omega
def fillV(b f:Int)(k:Nat):Nat:=((xz b f).getD k 0).toNat
theorem EE(b f:Int)(k:Nat):fillV b f k<=255:=by unfold fillV;have:=((xz b f).getD k 0).toNat_lt;omega
theorem RC(b f:Int)(a:f≠0)(h:k<64):(fillV b f k:Int)=(31*b+7*f+(k:Int))%256:=by unfold fillV;rw[RB b f a h];omega
def tL(b f:Int)(k:Nat):Bk:=(xz b f).take k++List.replicate (64-k) 0
theorem RD{b f:Int}(h:k<=64):(tL b f k).length=64:=by simp[tL,xg];omega
theorem RE{b f:Int}(h:k<64):(tL b f k).set k (UInt8.ofNat (fillV b f k))=tL b f (k+1):=by
 have j:=xg b f;unfold tL;rw[qXf _ _ (by rw[qzg,j];omega),qzg,j,Nat.min_eq_left oM,Nat.sub_self];obtain⟨a,n⟩:∃a,64-k=a+1:=⟨63-k,oM⟩
 rw[n,List.replicate_succ,qXh,show 64-(k+1)=a by omega,List.take_add_one,qxw,qyk oM];unfold fillV;rw[UInt8.ofNat_toNat,qyg,qyk oM];rfl
theorem RF(b f:Int):tL b f 64=xz b f:=by
 unfold tL;rw[qXk (by rw[xg];omega)];simp
theorem Uq(b:Int):xz b 0=zB:=if_pos rfl
def zbe(w:World)(b f:Int)(e:Ending)(w':World):Prop:=e=.returned (.agg (bkC (xz b f)).toArray)/\Below w.heap.size w w'
theorem EF(b f:Int)(w:World):Calls prog 20 #[.int .i64 b,.int .i64 f] w (zbe w b f):=by
 obtain⟨a,p⟩:=qqe (zB);have hZl:a.length=64:=by rw[p];rfl
 have A:=Y3 p (uB a p) hZl;obtain⟨w1,q⟩:=qqe ((w.alloc (.cells (bkC a).toArray 60)).alloc (.cells (bkC a).toArray 60));have s:w1.heap[w.heap.size]?=some (.cells (bkC a).toArray 60 (0,0)):=by rw[q];exact(qxk _ _ _ oe).trans (zc w _ rfl)
 have D:w1.heap[w.heap.size+1]?=some (.cells (bkC a).toArray 60 (0,0)):=by rw[q];exact zc _ _ oe
 have H:Below w.heap.size w w1:=by rw[q];exact((qxl _ w).alloc (qXp _) _).alloc oe _
 have n:=Y3 s D H;have J:=qqh q;clear s H q;by_cases E:f=0
 .subst E;have F:=zg D;have hth:=xp n.o.1 jX;clear D p;go_enter func20,ntmps20
  go_wp2_with (first
   |(refine zU rfl _ rfl _ A.o.2.1 ?_)
   |(rw[<-J.o];refine qYz rfl _ _ rfl _ _ rfl _ _ F underlying60 rfl (zu a hZl) ?_)
   |(refine qZb rfl _ _ _ rfl _ _ (bkC a).toArray rfl rfl oR oV (qYo (zx _)) ?_)
   |fail)
  refine qYq (zq rfl _ _ w.heap.size 0 (bkC a) _ rfl (qYl _ _ _ _ oZ) underlying60 rfl (zu a hZl)) rfl ?_;exact⟨by rw[Uq,A.o.1],zj n.o.2.2 (zn _ _ _ _) (qXp _) (fun k h=>oM)⟩
 .have V:(f==0)=false:=by simpa using E
  have S:=qqh E;clear D p E;go_enter func20,ntmps20
  go_wp2_with (first
   |(refine zU rfl _ rfl _ A.o.2.1 ?_)
   |fail)
  rw[<-J.o];go_loopg[10] 64 (fun g i wr=>∃k:Nat,k+g=64/\i=.int .i64 (k:Int)/\wr.heap[w.heap.size+1]?=some (.cells (bkC (tL b f k)).toArray 60 (0,0))/\Upd (fun T=>T=w.heap.size+1) w1 wr)
  case atStart=>
   refine⟨0,oM,rfl,?_,uur _ _⟩;rw[n.o.2.1,A.o.1];rfl
  case round=>
   obtain⟨k,W,rfl,j,v⟩:=hrel;by_cases hlt:k<64
   .have c1:=za j k;have X:=zf j k;have U:∃u,(bkC (tL b f k)).toArray[k]?=some u:=by
     rw[qxe (by rw[qXi,zm,RD oM];exact hlt)];exact⟨_,rfl⟩
    obtain⟨u,L⟩:=U;rw[L]at c1;obtain⟨x,hx⟩:=qqe (fillV b f k);have G:=zh j k (.int .u8 (x:Int));rw[EC _ _ _ (by rw[hx];exact EE b f k),hx,RE hlt,<-hx]at G;have M:=v.trans (zi wr (w.heap.size+1) k (.int .u8 (x:Int)));have N:=Y2 G M;have Y:(0:Int)<=(k:Int):=oM;have Z:(k:Int)<64:=oM;have a6:RowKit.wrap64 (RowKit.wrap64 (RowKit.wrap64 (31*b)+RowKit.wrap64 (7*f))+(k:Int))%256=(x:Int):=by
     have e:=zbd b f k;simp only[IntWalk.i64_left,IntKind.wrap_u8]at e;rw[e,hx,RC b f S.o hlt]
    clear G M j v L hx;go_wp2
    go_roundg (gk-1)
    case rel=>exact⟨k+1,oM,by go_num,N.o.1,N.o.2⟩
    case measure=>omega
   .obtain rfl:k=64:=oM;have O:Below w.heap.size w wr:=zj n.o.2.2 v (qXp _) (fun k h=>oM);have a7:w.heap.size+1<w1.heap.size:=zd n.o.2.1;have s:=(v.block w.heap.size oM oM).trans n.o.1;have hth:=xp s jX;rw[RF]at j;obtain⟨y,hy⟩:=qqe (xz b f);rw[<-hy]at j;have hyl:y.length=64:=by rw[hy];exact xg b f
    have F:=zg j;have Q:=Y2 hy O;clear hy j v O s;go_wp2_with (first
     |(refine qYz rfl _ _ rfl _ _ rfl _ _ F underlying60 rfl (zu y hyl) ?_)
     |(refine qZb rfl _ _ _ rfl _ _ (bkC y).toArray rfl rfl jE oU (qYo (zx _)) ?_)
     |fail)
    refine qYq (zq rfl _ _ w.heap.size 0 (bkC y) _ rfl (qYl _ _ _ _ jO) underlying60 rfl (zu y hyl)) rfl ?_;exact⟨by rw[Q.o.1],zj Q.o.2 (zn _ _ _ _) (qXp _) (fun k h=>oM)⟩
theorem TL{w:World}{v:Value}{L:List Bk}(h:Rd w 64 v L.length (rowC L))(a:All64 L)(b:k<L.length):∃g o c,v=.slice (some ⟨g,o,none⟩) L.length c/\w.rangeAt g (o+k*64) (bkC L[k]):=by
 obtain⟨g,o,c,rfl,-,p⟩:=h.at oM;refine⟨g,o,c,rfl,fun q u j=>?_⟩;have n:=(qym.1 j).1;rw[zm,a _ (qyv b)]at n;have:=p (k*64+q) u (by rw[vM a b n];exact j)
 rwa[qXm]
structure O21 where
 d:Int
 fr:Int
 n:Int
 fi:Int
 kp:Value
def sS(o:O21):List Value:=[.int .i64 o.d,.int .i64 o.fr,.int .i64 o.n,.int .i64 o.fi,o.kp]
def zdz(l:List O21):List Value:=l.flatMap sS
def zbP(l:List O21):Prop:=∀o∈l,o.kp.oneCell'=true
theorem vJ:(prog.info? 30).map (·.size)=some 5:=kR
theorem TM(n:Int)(w:World)(h1:1<=n)(h2:n<=64):Calls prog 24 #[.int .i64 n] w fun e a=>e=.returned (.bool true)/\a=w:=by
 go_enter func24,ntmps24
 go_wp2
 go_ret
 exact⟨rfl,rfl⟩
structure CaS.Gd(n:CaN)(a:CaS)(N:Nat):Prop where
 tie:a.Tie n none
 fit:a.Fit N
 pd:a.dP.length<=N
 pb:a.bP.length<=N
def kpN:Value->Nat
 | .slice _ k _=>k
 |_=>0
def EG(l:List O21):Prop:=∀o∈l,∃ao c,o.kp=.slice ao (kpN o.kp) c
def Few21(b s j:Int)(l:List O21):Prop:=(∀m (h:m<l.length),kpN l[m].kp<=60)/\(1<=b/\b<=12)/\(2<=s/\s<=8)/\(4<=j/\j<=12)/\l.length<=60
def EH(w:World)(b s j:Int)(l:List O21)(e:Ending)(w':World):Prop:=∃r:Bool,e=.returned (.bool r)/\(r=true↔Few21 b s j l)/\Below w.heap.size w w'
theorem zfy(b s j:Int)(v:Value)(l:List O21)(w:World)(hv:Rd w 5 v l.length (zdz l))(q:EG l):Calls prog 8 #[Sg b s j,v] w (EH w b s j l):=by
 obtain⟨w1,A⟩:=qqe (w.alloc (.cells #[.int .i64 b,.int .i64 s,.int .i64 j] 22));have D:=qqg A;have H:Below w.heap.size w w1:=by rw[A];exact(qxl _ w).alloc (qXp _) _
 have V:=za D 0;have W:=za D 1;have X:=za D 2;simp at V W X;have Y:=hv.le;unfold maxLen at Y;have n:=Y3 hv H q;have Z:=qqh A;obtain⟨ah,c,rfl⟩:=hv.j6;clear hv D H A q;go_enter func8,ntmps8
 go_wp2_with fail
 rw[<-Z.o];go_loopg[5] l.length (fun g i wr=>∃k:Nat,k+g=l.length/\i=.int .i64 (k:Int)/\(∀m (h:m<l.length),m<k->kpN l[m].kp<=60)/\wr=w1)
 case atStart=>exact⟨0,oM,rfl,fun m h J=>absurd J (Nat.not_lt_zero _),rfl⟩
 case round=>
  obtain⟨k,ai,rfl,L,a6⟩:=hrel;subst a6;have M:=qqh L;clear L;by_cases hlt:k<l.length
  .obtain ⟨bl,a7,aj,a8,N,O⟩:=n.o.1.at oM;cases a8;have hx:=xP (enc:=sS) (m:=5) (fun _=>rfl) O hlt;have aa:=(n.o.2.1.cell (p:=⟨bl,a7+k*5+4,none⟩) N).trans (hx 4 _ rfl);obtain⟨ak,am,q⟩:=n.o.2.2 _ (qyv hlt);have F:¬kpN l[k].kp<=60->¬Few21 b s j l:=fun h ab=>h (ab.1 k hlt);have Q:kpN l[k].kp<=60->∀m (h:m<l.length),m<k+1->kpN l[m].kp<=60:=fun hx m h J=>by
    by_cases e:m=k
    .subst e;exact hx
    .exact M.o m h oM
   have q1:(k:Int)<(l.length:Int):=oM;clear hx O N;generalize l[k].kp=y at*;rw[q]at aa;generalize kpN y=x at*;clear q;have S:=Y2 F Q;clear F Q hlt;by_cases hx:x<=60
   .have ad:=qqh (S.o.2 hx);have ae:¬(x:Int)>60:=oM;clear hx;go_wp2
    go_roundg (gk-1)
    case measure=>omega
    case rel=>exact⟨k+1,oM,by go_num,ad.o,rfl⟩
   .have af:=qqh (S.o.1 hx);have ae:(x:Int)>60:=oM;clear hx;go_wp2
    go_ret
    exact⟨false,rfl,⟨fun e=>(by cases e),fun e=>absurd e af.o⟩,n.o.2.1⟩
  .obtain rfl:k=l.length:=oM;have T:∀m (h:m<l.length),kpN l[m].kp<=60:=fun m h=>M.o m h h;have ag:=qqh T;clear T hlt;by_cases U:l.length<=60
   .have G:decide ((l.length:Int)<=60)=true:=by simp;omega
    by_cases E:(1<=b/\b<=12)/\(2<=s/\s<=8)/\(4<=j/\j<=12)
    .have a:=Y2 E U;obtain⟨⟨an,ao⟩,⟨ap,aq⟩,⟨ar,au⟩⟩:=E;go_wp2
     go_ret
     exact⟨true,by first|rfl|rw[G],⟨fun _=>⟨ag.o,a.o.1.1,a.o.1.2.1,a.o.1.2.2,a.o.2⟩,fun _=>rfl⟩,n.o.2.1⟩
    .have a:=qqh E;have F:b<1\/12<b\/s<2\/8<s\/j<4\/12<j:=oM;clear E;go_wp2
     all_goals
      go_ret
      exact⟨false,rfl,⟨fun e=>(by cases e),fun e=>absurd ⟨e.2.1,e.2.2.1,e.2.2.2.1⟩ a.o⟩,n.o.2.1⟩
   .have G:decide ((l.length:Int)<=60)=false:=by simp;omega
    have a:=qqh U;go_wp2
    all_goals
     go_ret
     exact⟨false,by first|rfl|rw[G],⟨fun e=>(by cases e),fun e=>absurd e.2.2.2.2 a.o⟩,n.o.2.1⟩
theorem zbf{w:World}{u v:Value}{L:List Bk}(hu:Rd w 64 u L.length (rowC L))(hv:Rd w 64 v L.length (rowC L))(s:All64 L):
  Calls prog 13 #[u,v] w fun e E=>e=.returned (.bool true)/\Upd (fun _=>False) w E:=by
 have F:=hu.le;unfold maxLen at F;have j:=Y3 hu hv s;obtain⟨a1,V,rfl⟩:=hu.j6;obtain⟨a2,W,rfl⟩:=hv.j6;clear hu hv s;go_enter func13,ntmps13
 go_wp2_with fail
 go_loopg[5] L.length (fun gk i wr=>∃k:Nat,k+gk=L.length/\i=.int .i64 (k:Int)/\Upd (fun _=>False) w wr)
 case atStart=>exact⟨0,oM,rfl,uur _ _⟩
 case round=>
  obtain⟨k,X,rfl,a⟩:=hrel;by_cases hlt:k<L.length
  .obtain ⟨G,H,c1,J,M⟩:=TL (j.o.1.keep a (fun _ _ h=>h)) j.o.2.2 hlt;obtain⟨N,O,c2,Q,T⟩:=TL (j.o.2.1.keep a (fun _ _ h=>h)) j.o.2.2 hlt;cases J;cases Q;have p:=j.o.2.2 _ (qyv hlt);generalize L[k]=y at*;have Y:∀b:World,(binOp .neq 60 (.agg (bkC y).toArray) (.agg (bkC y).toArray)).run prog b=.ok (.bool false) b:=fun b=>by rw[rG y y p p];simp
   have A:=zu y p;have D:=underlying60;have U:(k:Int)<(L.length:Int):=oM;have Z:(0:Int)<=(k:Int):=oM;have q:=qqh a;clear a hlt p;go_upto_region 6 with fail
   refine qZc (S:=fun b=>b.rangeAt G (H+k*64) (bkC y)/\b.rangeAt N (O+k*64) (bkC y)) kR (⟨by rw[qYk];exact M,by rw[qYk];exact T⟩) (fun n=>?_);refine Wl.i [0,1,2] ?_;iterate 3 refine Wl.t n ?_
   refine Wl.o ?_;refine Wl.l 3 (fun w h=>h.1) D A n ?_;refine Wl.i [4,5,6] ?_;iterate 3 refine Wl.t n ?_
   refine Wl.o ?_;refine Wl.l 7 (fun w h=>h.2) D A n ?_;refine Wl.i [8] (Wl.t n (Wl.o ?_));refine Wl.d ?_;go_wp2
   go_roundg (gk-1)
   case measure=>omega
   case rel=>exact⟨k+1,oM,by go_num,q.o.drew⟩
  .obtain rfl:k=L.length:=oM;have U:¬((L.length:Int)<(L.length:Int)):=oM;have q:=qqh a;clear a;go_wp2
   go_ret
   exact⟨rfl,q.o⟩
end Go.Proofs.YtpejdgiccaijfaaGreatDoor
