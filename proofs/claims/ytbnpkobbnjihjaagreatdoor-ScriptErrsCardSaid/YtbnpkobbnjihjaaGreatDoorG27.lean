/- A block of one -/
import Derived.Test.YtbnpkobbnjihjaaGreatDoorG23
set_option maxRecDepth 100000
set_option maxHeartbeats 2000000
namespace Go.Proofs.YtbnpkobbnjihjaaGreatDoor
open Go Go.RowKit Tryz
variable{k:Nat}
theorem Er(l:Bk)(i:Nat)(v:Nat)(b:v<=255):(bkC l).toArray.setIfInBounds i (.int .u8 (v:Int))=(bkC (l.set i (UInt8.ofNat v))).toArray:=by
 have:Go.Extern.Stop.cell (UInt8.ofNat v)=.int .u8 (v:Int):=by
  simp only[Go.Extern.Stop.cell]
  congr 1
  simp[UInt8.toNat_ofNat'];omega
 rw[<-this];apply Array.toList_inj.1;simp[bkC,List.map_set]
def smN(bl sl jo:Nat):CaN:=⟨7,bl,sl,jo,(sl-1)/4+1,2,3⟩
theorem Ra(j sl n:Nat)(F:1<=sl)(K:sl<=100)(w:World):Calls prog 15 #[.int .i64 (j:Int),.int .i64 (sl:Int),.int .i64 (n:Int)] w fun e q=>e=.returned (.agg (smN j sl n).C.toArray)/\Below w.heap.size w q:=by
 obtain⟨v,A⟩:=qqe ((sl-1)/4+1);have G:Hid (∀w,Calls prog 22 #[.int .i64 (sl:Int)] w fun e q=>e=.returned (.int .i64 (v:Int))/\w=q):=by
  intro w;rw[A];exact need_any sl F oM w
 have H:Hid ((smN j sl n).C=superC 7 (j:Int) (sl:Int) (n:Int) (v:Int) 2 3):=by
  show _=_;unfold smN CaN.C;rw[<-A];rfl
 rw[H.o];clear A;obtain⟨p,b⟩:=qqe (superC 7 (j:Int) (sl:Int) (n:Int) (v:Int) 2 3);have h1:∀J∈p,J.oneCell'=true:=by rw[b];exact Vt _ _ _ _ _ _ _
 have D:p.length=7:=by rw[b];rfl
 have E:(prog.info? 38).map (·.size)=some p.length:=by rw[D];exact xt
 have s:=Y3 D E h1;clear D E h1;replace b:=qqh b;have L:max (1:Int) (min (sl:Int) 100)=(sl:Int):=oM;rcases(show sl=1\/2<=sl by omega)with rfl|h2
 all_goals
  (try simp only[Int.natCast_one]at*)
  go_enter func15,ntmps15
  go_wp2_with (first
   |(go_at_call 22;refine(G.o _).mono ?_;rintro e q ⟨rfl,rfl⟩)
   |(refine zk rfl _ _ _ rfl _ _ p rfl (by rw[b.out];rfl) (by rw[s.o.1];rfl) s.o.2.1 s.o.2.2 ?_)
   |fail)
  exact qYq (zq rfl _ _ w.heap.size 0 p _ rfl (zf (zc w _ rfl)) underlying38 rfl s.o.2.1) rfl ⟨by rw[b.out],(qxl _ w).alloc (qXp _) _⟩
def xq(b f:Int):Bk:=if f=0 then zB else(List.range 64).map fun(i:Nat)=>UInt8.ofNat ((31*b+7*f+(i:Int))%256).toNat
theorem zbj(b f:Int)(i:Nat):IntKind.u8.wrap (IntKind.i64.wrap (IntKind.i64.wrap (IntKind.i64.wrap (31*b)+IntKind.i64.wrap (7*f))+(i:Int)))=(31*b+7*f+(i:Int))%256:=by
 simp only[IntKind.wrap_i64,IntKind.wrap_u8];omega
theorem xe(b f:Int):(xq b f).length=64:=by
 unfold xq;split
 .rfl
 .simp
theorem Rb(b f:Int)(h:f≠0){i:Nat}(j:i<64):((xq b f).getD i 0).toNat=((31*b+7*f+(i:Int))%256).toNat:=by
 unfold xq;rw[if_neg h,qyf,qym,List.getElem?_range j];show(UInt8.ofNat _).toNat=_;simp;omega
def fillV(b f:Int)(k:Nat):Nat:=((xq b f).getD k 0).toNat
theorem Es(b f:Int)(k:Nat):fillV b f k<=255:=by unfold fillV;have:=((xq b f).getD k 0).toNat_lt;omega
theorem Rc(b f:Int)(h:f≠0)(j:k<64):(fillV b f k:Int)=(31*b+7*f+(k:Int))%256:=by unfold fillV;rw[Rb b f h j];omega
def th(b f:Int)(k:Nat):Bk:=(xq b f).take k++List.replicate (64-k) 0
theorem Re{b f:Int}(h:k<=64):(th b f k).length=64:=by simp[th,xe];omega
theorem Rf{b f:Int}(h:k<64):(th b f k).set k (UInt8.ofNat (fillV b f k))=th b f (k+1):=by
 have n:=xe b f;unfold th;rw[qXe _ _ (by rw[qzf,n];omega),qzf,n,Nat.min_eq_left oM,Nat.sub_self];obtain⟨j,p⟩:∃j,64-k=j+1:=⟨63-k,oM⟩
 rw[p,List.replicate_succ,qXg,show 64-(k+1)=j by omega,List.take_add_one,qxv,qyj oM];unfold fillV;rw[UInt8.ofNat_toNat,qyf,qyj oM];rfl
theorem Rg(b f:Int):th b f 64=xq b f:=by
 unfold th;rw[qXj (by rw[xe];omega)];simp
theorem VS(b:Int):xq b 0=zB:=if_pos rfl
def zbk(w:World)(b f:Int)(e:Ending)(w':World):Prop:=e=.returned (.agg (bkC (xq b f)).toArray)/\Below w.heap.size w w'
theorem Et(b f:Int)(w:World):Calls prog 14 #[.int .i64 b,.int .i64 f] w (zbk w b f):=by
 obtain⟨j,q⟩:=qqe (zB);have hZl:j.length=64:=by rw[q];rfl
 have D:=Y3 q (uj j q) hZl;obtain⟨w1,s⟩:=qqe ((w.alloc (.cells (bkC j).toArray 54)).alloc (.cells (bkC j).toArray 54));have v:w1.heap[w.heap.size]?=some (.cells (bkC j).toArray 54 (0,0)):=by rw[s];exact(qxk _ _ _ oe).trans (zc w _ rfl)
 have E:w1.heap[w.heap.size+1]?=some (.cells (bkC j).toArray 54 (0,0)):=by rw[s];exact zc _ _ oe
 have J:Below w.heap.size w w1:=by rw[s];exact((qxl _ w).alloc (qXp _) _).alloc oe _
 have p:=Y3 v E J;have K:=qqh s;clear v J s;by_cases F:f=0
 .subst F;have G:=zf E;have hth:=xj p.o.1 jK;clear E q;go_enter func14,ntmps14
  go_wp2_with (first
   |(refine zT rfl _ rfl _ D.o.2.1 ?_)
   |(rw[<-K.o];refine qZa rfl _ _ rfl _ _ rfl _ _ G underlying54 rfl (zv j hZl) ?_)
   |(refine qZc rfl _ _ _ rfl _ _ (bkC j).toArray rfl rfl oJ oN (qYo (zu _)) ?_)
   |fail)
  refine qYq (zq rfl _ _ w.heap.size 0 (bkC j) _ rfl (qYl _ _ _ _ oR) underlying54 rfl (zv j hZl)) rfl ?_;exact⟨by rw[VS,D.o.1],zj p.o.2.2 (zo _ _ _ _) (qXp _) (fun k h=>oM)⟩
 .have U:(f==0)=false:=by simpa using F
  have R:=qqh F;clear E q F;go_enter func14,ntmps14
  go_wp2_with (first
   |(refine zT rfl _ rfl _ D.o.2.1 ?_)
   |fail)
  rw[<-K.o];go_loopg[10] 64 (fun g i wr=>∃k:Nat,k+g=64/\i=.int .i64 (k:Int)/\wr.heap[w.heap.size+1]?=some (.cells (bkC (th b f k)).toArray 54 (0,0))/\Upd (fun S=>S=w.heap.size+1) w1 wr)
  case atStart=>
   refine⟨0,oM,rfl,?_,uur _ _⟩;rw[p.o.2.1,D.o.1];rfl
  case round=>
   obtain⟨k,V,rfl,n,A⟩:=hrel;by_cases hlt:k<64
   .have c1:=za n k;have W:=zg n k;have T:∃u,(bkC (th b f k)).toArray[k]?=some u:=by
     rw[qxe (by rw[qXh,zn,Re oM];exact hlt)];exact⟨_,rfl⟩
    obtain⟨u,L⟩:=T;rw[L]at c1;obtain⟨x,hx⟩:=qqe (fillV b f k);have H:=zh n k (.int .u8 (x:Int));rw[Er _ _ _ (by rw[hx];exact Es b f k),hx,Rf hlt,<-hx]at H;have M:=A.trans (zi wr (w.heap.size+1) k (.int .u8 (x:Int)));have N:=Y2 H M;have X:(0:Int)<=(k:Int):=oM;have Y:(k:Int)<64:=oM;have Z:RowKit.wrap64 (RowKit.wrap64 (RowKit.wrap64 (31*b)+RowKit.wrap64 (7*f))+(k:Int))%256=(x:Int):=by
     have e:=zbj b f k;simp only[IntWalk.i64_left,IntKind.wrap_u8]at e;rw[e,hx,Rc b f R.o hlt]
    clear H M n A L hx;go_wp2
    go_roundg (gk-1)
    case rel=>exact⟨k+1,oM,by go_num,N.o.1,N.o.2⟩
    case measure=>omega
   .obtain rfl:k=64:=oM;have O:Below w.heap.size w wr:=zj p.o.2.2 A (qXp _) (fun k h=>oM);have a6:w.heap.size+1<w1.heap.size:=zd p.o.2.1;have v:=(A.block w.heap.size oM oM).trans p.o.1;have hth:=xj v jK;rw[Rg]at n;obtain⟨y,hy⟩:=qqe (xq b f);rw[<-hy]at n;have hyl:y.length=64:=by rw[hy];exact xe b f
    have G:=zf n;have Q:=Y2 hy O;clear hy n A O v;go_wp2_with (first
     |(refine qZa rfl _ _ rfl _ _ rfl _ _ G underlying54 rfl (zv y hyl) ?_)
     |(refine qZc rfl _ _ _ rfl _ _ (bkC y).toArray rfl rfl jv oL (qYo (zu _)) ?_)
     |fail)
    refine qYq (zq rfl _ _ w.heap.size 0 (bkC y) _ rfl (qYl _ _ _ _ jE) underlying54 rfl (zv y hyl)) rfl ?_;exact⟨by rw[Q.o.1],zj Q.o.2 (zo _ _ _ _) (qXp _) (fun k h=>oM)⟩
theorem zcf{w:World}{v:Value}{L:List Bk}(h:Rd w 64 v L.length (rowC L))(b:All64 L)(j:k<L.length):∃g o c,v=.slice (some ⟨g,o,none⟩) L.length c/\w.rangeAt g (o+k*64) (bkC L[k]):=by
 obtain⟨g,o,c,rfl,-,q⟩:=h.at oM;refine⟨g,o,c,rfl,fun s u n=>?_⟩;have p:=(qyl.1 n).1;rw[zn,b _ (qyu j)]at p;have:=q (k*64+s) u (by rw[vA b j p];exact n)
 rwa[qXl]
structure O21 where
 d:Int
 fr:Int
 n:Int
 fi:Int
 kp:Value
def opC21(o:O21):List Value:=[.int .i64 o.d,.int .i64 o.fr,.int .i64 o.n,.int .i64 o.fi,o.kp]
def zhk(l:List O21):List Value:=l.flatMap opC21
theorem wn:(prog.info? 25).map (·.size)=some 5:=kR
theorem Tr(n:Int)(w:World)(h1:1<=n)(h2:n<=64):Calls prog 20 #[.int .i64 n] w fun e b=>e=.returned (.bool true)/\b=w:=by
 go_enter func20,ntmps20
 go_wp2
 go_ret
 exact⟨rfl,rfl⟩
def kpN:Value->Nat
 | .slice _ k _=>k
 |_=>0
def zfz(l:List O21):Prop:=∀o∈l,∃ao c,o.kp=.slice ao (kpN o.kp) c
def Few21(b s j:Int)(l:List O21):Prop:=(∀m (h:m<l.length),kpN l[m].kp<=60)/\(1<=b/\b<=12)/\(2<=s/\s<=8)/\(4<=j/\j<=12)/\l.length<=60
def Eu(w:World)(b s j:Int)(l:List O21)(e:Ending)(w':World):Prop:=∃r:Bool,e=.returned (.bool r)/\(r=true↔Few21 b s j l)/\Below w.heap.size w w'
theorem zfA(b s j:Int)(v:Value)(l:List O21)(w:World)(D:Rd w 5 v l.length (zhk l))(A:zfz l):Calls prog 5 #[ue b s j,v] w (Eu w b s j l):=by
 obtain⟨w1,E⟩:=qqe (w.alloc (.cells #[.int .i64 b,.int .i64 s,.int .i64 j] 22));have F:=qqg E;have K:Below w.heap.size w w1:=by rw[E];exact(qxl _ w).alloc (qXp _) _
 have V:=za F 0;have W:=za F 1;have X:=za F 2;simp at V W X;have Y:=D.le;unfold maxLen at Y;have q:=Y3 D K A;have Z:=qqh E;obtain⟨ai,c,rfl⟩:=D.jW;clear D F K E A;go_enter func5,ntmps5
 go_wp2_with fail
 rw[<-Z.o];go_loopg[5] l.length (fun g i wr=>∃k:Nat,k+g=l.length/\i=.int .i64 (k:Int)/\(∀m (h:m<l.length),m<k->kpN l[m].kp<=60)/\wr=w1)
 case atStart=>exact⟨0,oM,rfl,fun m h L=>absurd L (Nat.not_lt_zero _),rfl⟩
 case round=>
  obtain⟨k,aj,rfl,M,a6⟩:=hrel;subst a6;have N:=qqh M;clear M;by_cases hlt:k<l.length
  .obtain ⟨a7,a8,ak,aa,O,Q⟩:=q.o.1.at oM;cases aa;have hx:=xY (enc:=opC21) (m:=5) (fun _=>rfl) Q hlt;have ab:=(q.o.2.1.cell (p:=⟨a7,a8+k*5+4,none⟩) O).trans (hx 4 _ rfl);obtain⟨am,an,A⟩:=q.o.2.2 _ (qyu hlt);have H:¬kpN l[k].kp<=60->¬Few21 b s j l:=fun h ad=>h (ad.1 k hlt);have R:kpN l[k].kp<=60->∀m (h:m<l.length),m<k+1->kpN l[m].kp<=60:=fun hx m h L=>by
    by_cases e:m=k
    .subst e;exact hx
    .exact N.o m h oM
   have q1:(k:Int)<(l.length:Int):=oM;clear hx Q O;generalize l[k].kp=y at*;rw[A]at ab;generalize kpN y=x at*;clear A;have S:=Y2 H R;clear H R hlt;by_cases hx:x<=60
   .have ae:=qqh (S.o.2 hx);have af:¬(x:Int)>60:=oM;clear hx;go_wp2
    go_roundg (gk-1)
    case measure=>omega
    case rel=>exact⟨k+1,oM,by go_num,ae.o,rfl⟩
   .have ag:=qqh (S.o.1 hx);have af:(x:Int)>60:=oM;clear hx;go_wp2
    go_ret
    exact⟨false,rfl,⟨fun e=>(by cases e),fun e=>absurd e ag.o⟩,q.o.2.1⟩
  .obtain rfl:k=l.length:=oM;have T:∀m (h:m<l.length),kpN l[m].kp<=60:=fun m h=>N.o m h h;have ah:=qqh T;clear T hlt;by_cases U:l.length<=60
   .have J:decide ((l.length:Int)<=60)=true:=by simp;omega
    by_cases G:(1<=b/\b<=12)/\(2<=s/\s<=8)/\(4<=j/\j<=12)
    .have n:=Y2 G U;obtain⟨⟨ao,ap⟩,⟨aq,ar⟩,⟨au,av⟩⟩:=G;go_wp2
     go_ret
     exact⟨true,by first|rfl|rw[J],⟨fun _=>⟨ah.o,n.o.1.1,n.o.1.2.1,n.o.1.2.2,n.o.2⟩,fun _=>rfl⟩,q.o.2.1⟩
    .have n:=qqh G;have H:b<1\/12<b\/s<2\/8<s\/j<4\/12<j:=oM;clear G;go_wp2
     all_goals
      go_ret
      exact⟨false,rfl,⟨fun e=>(by cases e),fun e=>absurd ⟨e.2.1,e.2.2.1,e.2.2.2.1⟩ n.o⟩,q.o.2.1⟩
   .have J:decide ((l.length:Int)<=60)=false:=by simp;omega
    have n:=qqh U;go_wp2
    all_goals
     go_ret
     exact⟨false,by first|rfl|rw[J],⟨fun e=>(by cases e),fun e=>absurd e.2.2.2.2 n.o⟩,q.o.2.1⟩
end Go.Proofs.YtbnpkobbnjihjaaGreatDoor
