/- See GetG2. att -/
import Derived.Test.YtbnpkobbnjihjaaGreatDoorG24
import Derived.Test.YtbnpkobbnjihjaaGreatDoorG18
import Derived.Test.YtbnpkobbnjihjaaGreatDoorG17
set_option maxRecDepth 100000
set_option maxHeartbeats 4000000
namespace Go.Proofs.YtbnpkobbnjihjaaGreatDoor
open Go Go.RowKit Tryz
variable{w:World}{b s13:Nat}{S:Nat->Prop}{F:List Bk}{O:List (Nat×Bk)}{v x:Value}{own:Nat->Nat}{n:CaN}
section
def zdJ(S:Nat->Prop)(w:World)(b:Nat)(F:List Bk)(O:List (Nat×Bk))(r:List Value×Int)(e:Ending)(w':World):Prop:=e=.returned (.tuple #[.agg r.1.toArray,.int .i64 r.2])/\Dv S w' b F O []/\Upd S w w'
def supR(n:CaN)(F G:List Bk)(y:Bk):List Value×Int:=if okS y=true then(if F.length=n.size/\G.length=n.bl then(n.C,0)else(zeroS,22))else(zeroS,cdS y)
theorem Yr:∀w:World,(Instr.alloc 38 true (.tuple #[])).run prog w=.ok (.pointer (some ⟨w.heap.size,0,none⟩)) (w.alloc (.cells zeroS.toArray 38)):=by
 intro w;kernel_rfl
theorem Ys:∀w:World,(Instr.build 38 #[]).run prog w=.ok (.agg zeroS.toArray) w:=by
 intro w;kernel_rfl
theorem ua{ops:Array Oper}{rest:List Oper}{op:Oper}{a:Act}{Q:Exit->Act->World->Prop}(h:op.guard=none)(t:TypeId)(j:op.op=.build t #[])
  (k:∀w:World,(Instr.build t #[]).run prog w=.ok v w)
  (p:wpList prog ops Q rest (a.put op.dst v) w):wpList prog ops Q (op::rest) a w:=by
 refine qZb h fun s q=>?_;unfold Oper.wp;simp only[execOp,j,qzk,qzj,qYg,k,qYf];exact q _ _ p
theorem zdK{y:Bk}(h:okS y=false):cdS y=12\/cdS y=13:=by
 unfold okS at h;unfold cdS xp;rw[h,if_neg oe];split
 .exact .inl rfl
 .exact .inr rfl
theorem zdL{T:Nat->Prop}{b0:Nat}{G:List Bk}{Q:List (Nat×Bk)}{P:List Int}(ay:Dv S w b F O [])(az:∀j,w.heap.size<=j->S j)(b1:Dv T w b0 G Q P)(b2:∀j,T j->¬S j)(b3:Nib w)(b4:¬S 1)(b5:0<F.length)
  (n:CaN) (b6:n.Ok) (hy:okS (curB F O 0)=true->dsS (natsI (numsS (curB F O 0)))=n.C):
  Calls prog 61 #[ptr b,ptr b0] w (zdJ S w b F O (supR n F G (curB F O 0))):=by
 obtain⟨p,D⟩:=qqe (zeroS);have ah:=Yr;have aA:=Ys;simp only[<-D]at ah aA;have HZZ:Hid (p=zeroS/\p.length=7/\p.toArray.size=7/\(prog.info? 38).map (·.size)=some p.toArray.size/\(p.toArray).all (·.oneCell')=true/\(prog.info? 38).map (·.size)=some p.length/\∀u∈p,u.oneCell'=true):=
  ⟨D,by rw[D];rfl,by rw[D];rfl,by rw[D];exact yw,by rw[D];exact rT,by rw[D];exact yw,by rw[D];exact qxu.1 (by simp[zeroS,Value.oneCell'])⟩
 obtain⟨y,ai⟩:=qqe (curB F O 0);obtain⟨aj,ak⟩:=qqe (supR n F G (curB F O 0));rw[<-ak];rw[<-ai]at ak hy;have aB:y.length=64:=by rw[ai];exact uz ay.good 0
 obtain⟨w1,a8⟩:=qqe (w.alloc (.cells p.toArray 38));have aC:=qqu a8;have b7:=qqg a8;have b8:w1.heap.size=w.heap.size+1:=by rw[a8];simp
 have aD:=(ay.but (qXp _)).keep aC (fun _ _ h=>h);have aE:∀j,w1.heap.size<=j->S j/\j≠w.heap.size:=fun j bO=>⟨az j oM,oM⟩
 have b9:=qqh (wE aD aE 0 b5);have J:=Y9 aD aE b1 b2 b3 b4 b6 hy ak;have K:=Y6 a8 aC b7 b8 ai (az _ (qXp _));have bb:=zv y aB;clear ay az b1 b2 b3 b4 b5 b6 hy ak aD aE a8 aC b7 b8 ai D;go_enter func61,ntmps61
 go_wp2_with (first
  |(refine zT rfl _ rfl _ ah ?_)
  |fail)
 rw[<-K.o.1];refine b9.out.mono ?_;rintro e aF ⟨q,bP,rfl,aG,bc,-,bd,aH⟩;rw[if_neg de]at aG bc;rw[<-K.o.2.2.2.2.1]at aG;subst aG bc;have be:=(aH.block _ (zd K.o.2.2.1) (fun h=>h.2 rfl)).trans K.o.2.2.1;obtain⟨aI,aa⟩:=qqe (aF.alloc (.cells (bkC q).toArray 54));have am:=qqu aa;have aJ:aI.rangeAt aF.heap.size 0 (bkC q):=by rw[aa];exact zf (zc aF _ rfl)
 have aK:Upd (fun j=>S j/\j≠w.heap.size) w1 aI:=aH.trans (am.mono fE);have aL:Nib aI:=(J.o.2.2.2.2.1.keep K.o.2.1 id).keep aK (fun h=>J.o.2.2.2.2.2.1 h.1);have bf:=qqh (Eb aL q aB);have an:=Y5 aa aK (bd.new am) (am.jV be) aL;rw[aa]at aJ;clear bd aH be am aK aL aa b9;go_wp2_with (first
  |(refine zk rfl _ _ _ rfl _ _ (bkC q) rfl rfl (by rw[zn,aB];rfl) bb (zu q) ?_)
  |(refine qZa rfl _ _ rfl _ _ rfl _ _ aJ underlying54 rfl bb ?_)
  |fail)
 rw[<-an.o.1];refine bf.o.mono ?_;rintro e ab ⟨⟨k,aM,aN,rfl⟩,bg⟩;have ao:=qqb bg;have E:Hid (k.length=7/\∀v∈k,v.oneCell'=true):=by
  cases s:okS q with
  |true=>rw[aM s];exact⟨qE _,qF _⟩
  |false=>rw[aN s];exact⟨rfl,qxu.1 (by simp[zeroS,Value.oneCell']:zeroS.all (·.oneCell')=true)⟩
 have R:Hid ((prog.info? 38).map (·.size)=some k.length):=by show _=_;rw[E.out.1];exact yw
 obtain⟨H,U⟩:=qqe (ab.alloc (.cells k.toArray 38));have ap:=qqu U;have aO:Upd (fun j=>S j/\j≠w.heap.size) w1 H:=an.o.2.1.trans ((ao.trans ap).mono fE);have aP:=an.o.2.2.1.new (ao.trans ap);have aQ:=(ao.trans ap).jV an.o.2.2.2.1;have aq:H.rangeAt ab.heap.size 0 k:=by rw[U];exact zf (zc ab _ rfl)
 have tA:=zy (n:=7) aQ oH;have bh:Hid (∀A,Upd (fun j=>j=w.heap.size) H A->Dv S A b F O []/\Upd S w A):=fun A ar=>⟨(aP.keep ar (fun j h e=>h.2 e)).wide (fun j h=>h.1),((K.o.2.1.mono fE).trans (aO.mono (fun _ _ h=>h.1))).trans (ar.mono (fun j _ e=>by rw[e];exact K.o.2.2.2.2.2))⟩
 have L:=Y5 U aP aQ aq aO;have bt:=Y2 aM aN;clear bg ao ap aO aP aQ aJ aM aN bf;rw[U]at tA aq;have bi:(ab.alloc (.cells k.toArray 38)).there w.heap.size 0 p.toArray.size:=by rw[HZZ.o.2.2.1];exact tA
 cases s:okS q with
 |false=>
  have ad:aj=(zeroS,cdS q):=by rw[J.o.2.2.2.2.2.2.2.2];unfold supR;rw[s,if_neg oe]
  have aR:=zdK s;have V:=Y2 ad aR;have bj:¬cdS q=0:=by rcases aR with h|h<;>rw[h]<;>decide
  have q1:(cdS q==0)=false:=by simpa using bj
  have q2:(cdS q !=0)=true:=by simpa using bj
  clear ad aR U s;generalize cdS q=bQ at*;go_wp2_with (first
   |(refine zT rfl _ rfl _ ah ?_)
   |(refine zk rfl _ _ _ rfl _ _ k rfl rfl (by rw[HZZ.o.2.2.1,E.out.1]) R.out E.out.2 ?_)
   |(refine ua rfl _ rfl aA ?_)
   |(refine qZc rfl _ _ _ rfl _ _ p.toArray rfl rfl bi HZZ.o.2.2.2.1 HZZ.o.2.2.2.2.1 ?_)
   |fail)
  rw[V.o.1];refine qYq (zp rfl _ _ w.heap.size 0 p _ rfl (qYl _ _ _ _ jH) underlying38 rfl HZZ.o.2.2.2.2.2.1) rfl ?_;rw[<-L.o.1];have h:=bh.o _ (zo H w.heap.size 0 p);exact⟨by rw[HZZ.o.1];rfl,h.1,h.2⟩
 |true=>
  have W:cdS q=0:=by unfold okS at s;unfold cdS xp;rw[s,if_pos rfl]
  have aS:k=n.C:=(bt.o.1 s).trans (J.o.2.2.2.2.2.2.2.1 s);have ad:aj=if F.length=n.size/\G.length=n.bl then(n.C,0)else(zeroS,22):=by rw[J.o.2.2.2.2.2.2.2.2];unfold supR;rw[if_pos s]
  have V:=Y2 aS ad;obtain⟨M,X⟩:=qqe (layC n.sl n.jo n.pa n.lo);have bu:Hid (Calls prog 16 #[.agg k.toArray] H fun e w'=>e=.returned (.tuple #[.agg M.toArray,.int .i64 0])/\Below H.heap.size H w'):=by
   show Calls _ _ _ _ _;rw[aS,X];obtain⟨bv,bx,bz,bA,bB,bC,bD,bE,a1,a2,bF,bG,z⟩:=J.o.2.2.2.2.2.2.1;exact uG n.id n.bl n.sl n.jo n.pa n.lo n.ba bv bx bz bA bB bC bD bE a1 a2 bF bG z H
  have au:M.length=7:=by rw[X];rfl
  have ae:=Y4 (show(prog.info? 62).map (·.size)=some M.length by rw[X];exact xh) (show∀v∈M,v.oneCell'=true by rw[X];exact uX _ _ _ _) au X;rw[W];clear W aS ad X au U s;go_wp2_with (first
   |(refine zT rfl _ rfl _ ah ?_)
   |(refine zk rfl _ _ _ rfl _ _ k rfl rfl (by rw[HZZ.o.2.2.1,E.out.1]) R.out E.out.2 ?_)
   |(refine qZa rfl _ _ rfl _ _ rfl _ _ aq underlying38 rfl R.out ?_)
   |fail)
  rw[<-L.o.1];refine bu.out.mono ?_;rintro e av ⟨rfl,bk⟩;have aT:=qqb bk;obtain⟨bH,af⟩:=qqe (av.alloc (.cells M.toArray 62));have bn:=qqu af;have Y:=aT.trans bn;have aU:=Y.jV L.o.2.2.1;have aV:=Y.range L.o.2.2.2.1 id;have aW:bH.rangeAt av.heap.size 0 M:=by rw[af];exact zf (zc av _ rfl)
  have bo:=((J.o.2.2.1.new K.o.2.1).keep L.o.2.2.2.2 (fun j h bI=>J.o.2.2.2.1 j h bI.1)).new Y;have aX:=L.o.2.1.new Y;have Z:=SS aX bo n.id n.bl n.sl n.jo n.pa n.lo n.ba;rw[show superC n.id n.bl n.sl n.jo n.pa n.lo n.ba=k from V.o.1.symm,<-ae.o.2.2.2]at Z;obtain⟨bp,aY⟩:=qqe (rG F G (sizeN n.sl n.jo n.pa n.lo) n.bl);rw[<-aY]at Z;replace Z:=qqh Z;have bq:=zy (n:=7) aU oH;have a6:=Y6 af Y aU aX aY (show H.heap.size<=av.heap.size from aT.size);have au:=ae.o.2.2.1;rw[af]at aV aW bq;clear bk aT bn Y aU aX bo af aY tA bi aq;go_wp2_with (first
   |(refine zk rfl _ _ _ rfl _ _ M rfl rfl (by rw[au];rfl) ae.o.1 ae.o.2.1 ?_)
   |(refine qZa rfl _ _ rfl _ _ rfl _ _ aV underlying38 rfl R.out ?_)
   |(refine qZa rfl _ _ rfl _ _ rfl _ _ aW underlying62 rfl ae.o.1 ?_)
   |fail)
  rw[<-a6.o.1];refine Z.out.mono ?_;rintro e N ⟨rfl,aw⟩;have br:=aw.jV a6.o.2.2.1;have ax:=zy (n:=7) br oH;have bJ:N.rangeAt ab.heap.size 0 k:=by
   have:=(a6.o.2.1.trans aw).range L.o.2.2.2.1 id;exact this
  have bs:Hid (∀A,Upd (fun j=>j=w.heap.size) N A->Dv S A b F O []/\Upd S w A):=fun A ar=>bh.o A ((((a6.o.2.1.trans aw).mono fE)).trans ar)|>.imp id id
  clear aw br aV aW bq Z;by_cases a7:F.length=n.size/\G.length=n.bl
  .have W:bp=0:=by rw[a6.o.2.2.2.2.1];exact if_pos a7
   have ag:aj=(n.C,0):=by rw[V.o.2,if_pos a7]
   have aZ:=qqh ag;have bK:N.there w.heap.size 0 k.toArray.size:=by rw[show k.toArray.size=7 by simpa using E.out.1];exact ax
   have bL:N.there w.heap.size 0 k.length:=by rw[E.out.1];exact ax
   have bM:Hid ((prog.info? 38).map (·.size)=some k.toArray.size):=by show _=_;rw[show k.toArray.size=7 by simpa using E.out.1];exact yw
   subst W;clear ag a7;go_wp2_with (first
    |(refine qZa rfl _ _ rfl _ _ rfl _ _ bJ underlying38 rfl R.out ?_)
    |(refine qZc rfl _ _ _ rfl _ _ k.toArray rfl rfl bK bM.out (qYo E.out.2) ?_)
    |fail)
   rw[aZ.o];refine qYq (zp rfl _ _ w.heap.size 0 k _ rfl (qYl _ _ _ _ bL) underlying38 rfl R.out) rfl ?_;have h:=bs.o _ (zo N w.heap.size 0 k);exact⟨by rw[V.o.1];rfl,h.1,h.2⟩
  .have W:bp=22:=by rw[a6.o.2.2.2.2.1];exact if_neg a7
   have ag:aj=(zeroS,22):=by rw[V.o.2,if_neg a7]
   have aZ:=qqh ag;have bN:N.there w.heap.size 0 p.toArray.size:=by rw[HZZ.o.2.2.1];exact ax
   subst W;clear ag a7;go_wp2_with (first
    |(refine ua rfl _ rfl aA ?_)
    |(refine qZc rfl _ _ _ rfl _ _ p.toArray rfl rfl bN HZZ.o.2.2.2.1 HZZ.o.2.2.2.2.1 ?_)
    |fail)
   rw[aZ.o];refine qYq (zp rfl _ _ w.heap.size 0 p _ rfl (qYl _ _ _ _ (by rw[HZZ.o.2.1];exact ax)) underlying38 rfl HZZ.o.2.2.2.2.2.1) rfl ?_;have h:=bs.o _ (zo N w.heap.size 0 p);exact⟨by rw[HZZ.o.1];rfl,h.1,h.2⟩
structure Dvs(own:Nat->Nat)(w:World)(ssd back:Nat)(F:List Bk)(O:List (Nat×Bk))(G:List Bk)(Q:List (Nat×Bk))(P:List Int):Prop where
 ssd:Dv (fun j=>own j=2) w ssd F O []
 back:Dv (fun j=>own j=3) w back G Q P
 far:∀j,w.heap.size<=j->own j=0
 nib:Nib w
 tur:Tur w
 on:own 1=0
 ot:own 0=0
section
variable{own own':Nat->Nat}{w w':World}{ssd back:Nat}{F G:List Bk}{O Q:List (Nat×Bk)}{P:List Int}
theorem Dvs.new(h:Dvs own w ssd back F O G Q P)(j:Upd (fun _=>False) w w'):Dvs own w' ssd back F O G Q P:=
 ⟨h.ssd.new j,h.back.new j,fun k p=>h.far k (qXr j.size p),h.nib.keep j id,h.tur.keep j id,h.on,h.ot⟩
theorem Dvs.j3(k:Dvs own w ssd back F O G Q P)(p:Upd (fun _=>False) w w'):Did own own w w':=⟨p.mono fE,fun _ _=>rfl,fun h j=>by rw[k.far h j];decide,fun h j=>k.far h (qXr p.size j)⟩
theorem Dvs.kC(h:Dvs own w ssd back F O G Q P):Dv (fun j=>own j=2\/w.heap.size<=j) w ssd F O []:=(Dv.kD _ _ _ _).open h.ssd
theorem Dvs.on2(h:Dvs own w ssd back F O G Q P):¬(own 1=2\/w.heap.size<=1):=fun j=>by rcases j with j|j;rw[h.on]at j;exact absurd j de;exact absurd h.nib.lt oM
theorem Dvs.kz{q:List Bk}{s:List (Nat×Bk)}(h:Dvs own w ssd back F O G Q P)(j:Upd (fun k=>own k=2\/w.heap.size<=k) w w')(A:Dv (fun k=>own k=2\/w.heap.size<=k) w' ssd q s []):Dvs (grow own 2 w.heap.size w'.heap.size) w' ssd back q s G Q P where
 ssd:=(Dv.kD _ _ _ _).mine j.size A
 back:=(Dv.kD _ _ _ _).other h.back de j
 far:=(Did.step h.far (t:=2) de de j).far
 nib:=h.nib.keep j h.on2
 tur:=h.tur.keep j (fun p=>by rcases p with p|p;rw[h.ot]at p;exact absurd p de;exact absurd h.tur.lt oM)
 on:=(zw h.nib.lt).trans h.on
 ot:=(zw h.tur.lt).trans h.ot
theorem Dvs.did2(h:Dvs own w ssd back F O G Q P)(k:Upd (fun j=>own j=2\/w.heap.size<=j) w w'):Did own (grow own 2 w.heap.size w'.heap.size) w w':=Did.step h.far de de k
theorem Did.zero{o:Obj}(d:Did own own' w w')(h:w.heap[b]?=some o)(j:own b=0):w'.heap[b]?=some o/\own' b=0:=
 ⟨(d.upd.block _ (zd h) (fun k=>k.1 j)).trans h,(d.old _ (zd h)).trans j⟩
def Kps(own:Nat->Nat)(w:World)(Fx:Nat->Option Obj):Prop:=∀b o,Fx b=some o->w.heap[b]?=some o/\own b=0
theorem Kps.did{Fx:Nat->Option Obj}(h:Kps own w Fx)(d:Did own own' w w'):Kps own' w' Fx:=fun b o j=>d.zero (h b o j).1 (h b o j).2
theorem Kps.aside{Fx:Nat->Option Obj}(j:Kps own w Fx)(p:Upd S w w')(q:∀k,S k->Fx k=none):Kps own w' Fx:=fun b o h=>
 ⟨(p.block _ (zd (j b o h).1) (fun s=>by rw[q b s]at h;cases h)).trans (j b o h).1,(j b o h).2⟩
theorem Yt{v:Array Value}{t:TypeId}(q:Nib w)(s:Tur w)(k:w.heap[b]?=some (.cells v t (0,0)))(A:own b=0)(p:∀D x,v[0]?≠some (.int D x)):∀j,j=b->own j=0/\j≠1/\j≠0:=by
 rintro j rfl;refine⟨A,fun e=>?_,fun e=>?_⟩
 .have h2:=za k 0;rw[e]at h2;exact p _ _ (h2.symm.trans (q.c 0 de))
 .have h2:=za k 0;rw[e]at h2;exact p _ _ (h2.symm.trans s.c0)
theorem Did.mine{k:World}(d:Did own own' w w')(p:Upd (fun j=>j=b) w' k)(s:w.heap.size<=b):Did own own' w k:=
 ⟨d.upd.new p (fun i A e=>oM),d.old,d.new,fun j q=>d.far j (qXr p.size q)⟩
theorem xk{u:Value}{t:TypeId}(h:w.heap[b]?=some (.cells #[v] t (0,0))):(w.setCell ⟨b,0,none⟩ u).heap[b]?=some (.cells #[u] t (0,0)):=zh h 0 u
end
def zfB(own:Nat->Nat)(w:World)(ssd back s13:Nat)(n:CaN)(a:CaS)(e:Ending)(w':World):Prop:=
 e=.returned (.int .i64 0)/\∃c p own' w2,CaAt own' w2 c n p a/\p.ssd=ssd/\p.back=back/\Did own own' w w2/\w'=w2.setCell ⟨s13,0,none⟩ (ptr c)
theorem zhl{ssd back s8 q D E H J:Nat}{ao:Option Addr}{ln lc:Nat}{a:CaS}(wh sq:Nat)
  (K:Calls prog 66 #[.agg n.C.toArray,ptr ssd,ptr back,.int .i64 (wh:Int),.int .i64 ((sq+1:Nat):Int),.slice ao ln lc] w (Yd own w ssd back n a))
  (ad:sq<1099511627776) (k:w.rangeAt s8 0 n.C) (V:w.cell? ⟨q,0,none⟩=some (ptr ssd)) (W:w.cell? ⟨D,0,none⟩=some (ptr back)) (X:w.cell? ⟨E,0,none⟩=some (.int .i64 (wh:Int)))
  (Y:w.cell? ⟨H,0,none⟩=some (.int .i64 (sq:Int))) (Z:w.cell? ⟨J,0,none⟩=some (.slice ao ln lc)) (L:w.heap[s13]?=some (.cells #[x] 88 (0,0))) (M:own s13=0):
  Calls prog 65 #[ptr s8,ptr q,ptr D,ptr E,ptr H,ptr J,ptr s13] w (zfB own w ssd back s13 n a):=by
 obtain⟨a6,p⟩:=qqe (n.C);have h:=qqh K;have a7:(prog.info? 38).map (·.size)=some a6.length:=by rw[p];exact xt
 rw[<-p]at k h;rw[show((sq+1:Nat):Int)=(sq:Int)+1 by simp]at h;have N:=Y2 L M;clear K p L M;go_enter func65,ntmps65
 go_wp2_with (first
  |(refine qZa rfl _ _ rfl _ _ rfl _ _ k underlying38 rfl a7 ?_)
  |fail)
 refine h.out.mono ?_;rintro e a8 ⟨c,aa,ab,rfl,R,T,U,s⟩;have A:=(s.zero N.o.1 N.o.2).1;have ae:=za A 0;have af:=zg A 0;have j:=Y4 U s R T;clear U s A R T k V W X Y Z h;go_wp2
 go_ret
 exact⟨rfl,c,aa,ab,a8,j.o.1,j.o.2.2.1,j.o.2.2.2,j.o.2.1,rfl⟩
def zfC(_own:Nat->Nat)(w:World)(d s14:Nat)(n:CaN)(e:Ending)(w':World):Prop:=
 e=.returned (.int .i64 0)/\∃li lc lf w2,LogI w2 li d (1+2*n.pa+n.jo) n.lo 118/\LogC w2 lc d (1+2*n.pa+n.jo+n.lo) n.lo 122/\LogF w2 lf d (1+2*n.pa+n.jo+n.lo+n.lo) n.lo 126/\
  (w.heap.size<=li/\w.heap.size<=lc/\w.heap.size<=lf)/\Upd (fun _=>False) w w2/\w'=w2.setCells s14 0 [ptr li,ptr lc,ptr lf]
theorem wo:(prog.info? 93).map (·.size)=some 3:=kR
theorem zhm{c k:Nat}{p:CaP}{a:CaS}{y z:Value}(s:CaAt own w c n p a)(U:w.cell? ⟨s13,0,none⟩=some (ptr c))(A:w.heap[k]?=some (.cells #[x,y,z] 93 (0,0))):
  Calls prog 67 #[ptr s13,ptr k] w (zfC own w p.ssd k n):=by
 have D:=qqh (zfv s);have V:=qqh A;clear s A;go_enter func67,ntmps67
 go_wp2_with fail
 refine D.o.mono ?_;rintro e W ⟨E,H,J,rfl,K,L,M,N,R⟩;have q:=qqb R;have T:=q.jV V.o;have X:=zy (n:=3) T oe;have j:=Y5 K L M N q;clear K L M N q R T U D;go_wp2_with (first
  |(refine qZc rfl _ _ _ rfl _ _ [ptr E,ptr H,ptr J].toArray rfl rfl X wo jf ?_)
  |fail)
 go_ret
 exact⟨rfl,E,H,J,W,j.o.1,j.o.2.1,j.o.2.2.1,j.o.2.2.2.1,j.o.2.2.2.2,rfl⟩
theorem zhn{c:Nat}{p:CaP}{a':CaS}(h:Calls prog 72 #[ptr c] w (zx own w c n p a' (.int .i64 0)))(s:w.cell? ⟨s13,0,none⟩=some (ptr c)):
  Calls prog 71 #[ptr s13] w (zx own w c n p a' (.int .i64 0)):=by
 have j:=qqh h;clear h;go_enter func71,ntmps71
 go_wp2_with fail
 refine j.o.mono ?_;rintro e D ⟨rfl,A,h2,k⟩;have q:=Y2 h2 k;clear h2 k j s;go_wp2
 go_ret
 exact⟨rfl,A,q.o.1,q.o.2⟩
open Go Go.RowKit Go.Shelf Tryz
attribute [local go_sem] qYb
section
variable{F:Fence}{n:Nat}{P:Program}{ops:Array Oper}{rest:List Oper}{op:Oper}{a:Act}{w:World}{Q:Exit->Act->World->Prop}
theorem Yu(q:op.guard=none)(j k:TypeId)(p:Operand)(ho:op.op=.buildSlice j 1 #[(0,p)])(cs:List Value)(s:a.eval p=.agg cs.toArray)
  (A:(Instr.buildSlice j 1 #[(0,.agg cs.toArray)]).run P w=.ok (.slice (some ⟨w.heap.size,0,none⟩) 1 1) (w.alloc (.cells cs.toArray k)))
  (h:wpListIn F n P ops Q rest (a.put op.dst (.slice (some ⟨w.heap.size,0,none⟩) 1 1)) (w.alloc (.cells cs.toArray k))):wpListIn F n P ops Q (op::rest) a w:=by
 refine wpListIn_plain q fun E D=>?_;unfold Oper.wpIn;refine⟨by simp[Oper.about,ho],?_⟩;rw[Oper.semAt_plain F _ _ jC];simp only[execOp,ho,qzk,qzh,qzj,s,qYg,A,qYf];exact D _ _ h
theorem Yv(j:op.guard=none)(s x:Operand)(t:TypeId)(h:op.op=Op.call {callee:=Callee.builtin Builtin.append,args:= #[s,x],argTypes:= #[t,t]})(v x':Value)(k:a.eval s=v)(hx:a.eval x=x')(v':Value)(w':World)
  (p:(Builtin.append_ #[t,t] op.type #[v,x']).run P w=.ok v' w') (q:wpListIn F n P ops Q rest (a.put op.dst v') w'):wpListIn F n P ops Q (op::rest) a w:=by
 refine wpListIn_plain j fun E A=>?_;unfold Oper.wpIn;refine⟨?_,?_⟩
 .simp [Oper.about,h,resolve,Target.leads,Sem.run_pure]
 .rw [Oper.semAt_plain F _ _ (by rw[h];intro c D;cases D)];simp[execOp,h,resolve,invoke,builtin,k,hx,p,Result.andThen];exact A _ _ q
end
theorem VT(m:Nat)(D:m<=4096):∃j:Array Value,j.size=m*64/\∀w:World,(Instr.makeSlice 43 (.int .i64 0) (.int .i64 (m:Int))).run prog w=.ok (.slice (some ⟨w.heap.size,0,none⟩) 0 m) (w.alloc (.cells j 54)):=by
 obtain⟨k,z,p,q,E,s,A⟩:=yv;refine⟨madeCells z.cells (m*64),by simp[size_madeCells],fun w=>?_⟩;have:=run_make (P:=prog) w 43 54 k z underlying43 p q .i64 .i64 0 m oM oM (by rw[A];omega) oM;rw[this];simp only[qxs,s];rfl
def secsOf(F:List Bk)(O:List (Nat×Bk))(base m:Nat):List Bk:=(List.range m).map fun i=>curB F O (base+i)
theorem xf(F:List Bk)(O:List (Nat×Bk))(base m:Nat):(secsOf F O base m).length=m:=by simp[secsOf]
def zfD(S:Nat->Prop)(w:World)(b:Nat)(F:List Bk)(O:List (Nat×Bk))(l:List Bk)(e:Ending)(w':World):Prop:=
 ∃v,e=.returned (.tuple #[.int .i64 ((if readOk l then readSeq l else 0:Nat):Int),v,.int .i64 (if readOk l then 0 else 14)])/\Sl w' 132 4 v (if readOk l then readEs l else[]).length ((if readOk l then readEs l else[]).flatMap entC)/\From w.heap.size v/\Dv (fun j=>S j/\∀g,v.ownBlock=some g->g≠j) w' b F O []/\Upd S w w'
def PrI(T D:Nat->Prop)(w5:World)(b lb rb:Nat)(F:List Bk)(O:List (Nat×Bk))(base:Nat){m:Nat}(pre:List {i:Nat//i<m})(W:World):Prop:=
 Upd T w5 W/\∃v S1,W.heap[lb]?=some (.cells #[v] 43 (0,0))/\Sl W 54 64 v pre.length (rowC (pre.map fun x=>curB F O (base+x.1)))/\(∀g,v.ownBlock=some g->g=rb\/w5.heap.size<=g)/\
  Dv S1 W b F O []/\(∀j,S1 j->D j)/\(∀j,S1 j->∃cs t z,W.heap[j]?=some (.cells cs t z))/\∀g,v.ownBlock=some g->¬S1 g
theorem zfE(ad:Dv S w b F O [])(aw:∀j,w.heap.size<=j->S j)(base m:Nat)(cy:1<=m)(cz:base+m<=F.length)(b3:Nib w)(b4:¬S 1):
  Calls prog 172 #[.pointer (some ⟨b,0,none⟩),.int .i64 (base:Int),.int .i64 (m:Int)] w (zfD S w b F O (secsOf F O base m)):=by
 have dj:=ad.good.fl;obtain⟨bn,bN,bO⟩:=VT m oM;obtain⟨w1,b5⟩:=qqe ((((w.alloc (.cells #[.pointer (some ⟨b,0,none⟩)] 31)).alloc (.cells #[.int .i64 0] 3)).alloc (.cells #[.slice none 0 0] 123)).alloc (.cells #[.int .i64 0] 34));have aF:Upd (fun _=>False) w w1:=by rw[b5];exact((((uur _ w).alloc _).alloc _).alloc _).alloc _
 obtain⟨ax,ae,af,ay,bo,-⟩:=xS w (.cells #[.pointer (some ⟨b,0,none⟩)] 31) (.cells #[.int .i64 0] 3) (.cells #[.slice none 0 0] 123) (.cells #[.int .i64 0] 34);rw[<-b5]at ax ae af ay bo;obtain⟨Z,aG⟩:=qqe ((w1.alloc (.cells bn 54)).alloc (.cells #[.slice (some ⟨w1.heap.size,0,none⟩) 0 m] 43));have s:Upd (fun _=>False) w1 Z:=by rw[aG];exact((uur _ w1).alloc _).alloc _
 have b6:Z.heap.size=w1.heap.size+2:=by rw[aG];simp
 have az:Z.heap[w1.heap.size]?=some (.cells bn 54 (0,0)):=by rw[aG];exact(qxk _ _ _ oe).trans (zc w1 _ rfl)
 have aA:Z.heap[w1.heap.size+1]?=some (.cells #[.slice (some ⟨w1.heap.size,0,none⟩) 0 m] 43 (0,0)):=by rw[aG];exact zc _ _ oe
 have cA:=ad.new aF;have cB:=qqh b5;have cC:=qqh aG;have aH:=Y15 ad aw b3 b4 aF s bo b6 az aA bN ax ae af ay;clear ad aw b3 b4 aF s az aA b5 aG ae af ay b6 ax;refine(callsIn_wide (n:=3)).1 ?_;refine callsIn_of_wp_marks func172 rfl trivial ?_ rfl;simp only[ntmps172,qXh,qyz,qzc,Nat.reduceAdd,Nat.reduceSub,qxi,qxj,qXb,qxx,qzu,qxy];refine wpIn_wide.2 ?_;go_wp2_with fail
 rw[<-cB.o];refine(Sj cA base m cy cz).mono ?_;rintro e w' ⟨rfl,rfl⟩;go_wp2_with fail
 have cD:=bO;have bP:=aH.o.2.2.2.2.2.2.1;obtain⟨k,ag⟩:=qqe (w.heap.size);have b7:=qqh ag;have bp:=cC.o;rw[bP]at bp;rw[<-bp,<-ag];refine(tW (base:Int) (m:Int) Z).mono ?_;rintro e N ⟨rfl,aN⟩;obtain⟨ad,aw,b3,b4,aF,s,bQ,b6,az,aA,cE,ax,ae,af,ay⟩:=aH.o;have ao:Upd (fun _=>False) Z N:=by rw[aN];exact((uur _ Z).alloc _).alloc _
 have dk:N.heap.size=k+8:=by rw[aN];simp;omega
 have bq:Z.heap.size=k+6:=oM;have cF:N.cell? ⟨k+6,0,none⟩=some (.int .i64 (base:Int)):=by
  rw[aN,<-bq];exact(za ((qxk _ _ _ oe).trans (zc Z _ rfl)) 0)
 have cG:N.cell? ⟨k+7,0,none⟩=some (.int .i64 (m:Int)):=by
  rw[aN,show k+7=Z.heap.size+1 by omega];exact(za (zc _ _ oe) 0)
 have a6:Upd (fun _=>False) w N:=(aF.trans s).trans ao;obtain⟨L,K⟩:∃L:Nat->Prop,L=fun j=>(S j/\j<k)\/(k+4<=j/\j<k+6)\/k+8<=j:=⟨_,rfl⟩
 obtain⟨a7,ah⟩:∃a7:Nat->Prop,a7=fun j=>(S j/\j<k)\/k+8<=j:=⟨_,rfl⟩
 have ai:∀j,a7 j->L j:=fun j h=>by rw[ah]at h;rw[K];exact h.imp id .inr
 have R:∀j,k<=j->j<k+8->¬a7 j:=fun j h1 h2 h=>by rw[ah]at h;rcases h with h|h<;>omega
 have aj:∀j,k+8<=j->a7 j:=fun j h=>by rw[ah];exact .inr h
 have aO:∀j,k+8<=j->L j:=fun j p=>by rw[K];exact .inr (.inr p)
 have aP:∀j,k<=j->j<k+4\/(k+6<=j/\j<k+8)->¬L j:=fun j h1 h2 h=>by rw[K]at h;rcases h with h|h|h<;>omega
 have ak:L (k+4):=by rw[K];exact .inr (.inl oM)
 have am:L (k+5):=by rw[K];exact .inr (.inl oM)
 have br:Dv a7 N b F O []:=((ad.kw (T:=fun j=>S j/\j<k) (fun j h1 h2=>⟨h1,oM⟩)).new a6).wide (fun j h=>by rw[ah];exact .inl h);obtain⟨aB,aQ,W,a8⟩:=br.exact;rw[bQ]at az aA;rw[<-ag]at ax ae af ay az aA;have ap:=(s.trans ao).jV ax;have aR:=(s.trans ao).jV ae;have aI:=(s.trans ao).jV af;have aS:=(s.trans ao).jV ay;have aT:=ao.jV az;have bR:=ao.jV aA;have bS:Sl N 54 64 (.slice (some ⟨k+4,0,none⟩) 0 m) 0 []:=⟨rfl,.inr ⟨k+4,0,m,bn,rfl,aT,oM,by unfold maxLen;omega,by rw[bN];omega,fun j u h=>by cases h⟩⟩
 have bT:=Y15 br aO aP ap aR aI aS K a6 ak am ah ai R aj;have cH:Hid (PrI L a7 N b (k+5) (k+4) F O base ([]:List {i:Nat//i<m}) N):=⟨uur _ _,_,aB,bR,bS,fun g q=>by cases q;exact .inl rfl,aQ,W,a8,fun g q A=>by cases q;exact R (k+4) oM oM (W _ A)⟩
 rw[bq];clear ad aw b3 b4 aF s az aA cE ax ae af ay ao ap aR aI aS aT bR bS br a6 K ah aQ W a8 bp aN b6 bq bO cD ag bo bQ bP;go_wp2_with fail
 refine(wpIn_wide (n:=3)).1 ?_
 refine' wpIn_rangeFunc_ownF rfl oM (gf:=169) (lb:= #[.pointer (some ⟨k+7,0,none⟩),.pointer (some ⟨k+6,0,none⟩)]) rfl trivial (enters_of func169 kR rfl)
  (sV _ oM L (k+7) (k+6) base m N oM oM oM oM (aP _ oM (.inr oM)) (aP _ oM (.inr oM)) cG cF) uf (fun E l o cI cJ=>ww (M:=k+8) aO E l o cI oM) (qxl _ _) (fun _=>rfl)
  (PrI L a7 N b (k+5) (k+4) F O base)
  (fun _ _ _=>False)
  (fun aq cK cL cM A q b8=>by
   obtain⟨H,v,aB,cN,A,U,ad,W,a8,cO⟩:=A;have bU:∀{j:Nat} {cs:Array Value} {t:TypeId} {z:Nat×Nat},cK.heap[j]?=some (Obj.cells cs t z)->cL.heap[j]?=some (Obj.cells cs t z):=fun h=>(grownBy_keeps_cells q (fun r e=>(b8 r e).2) h rfl).trans h;exact⟨yI H q (fun r e=>aO r (by have:=(b8 r e).1;omega)),v,aB,bU cN,
    A.keep (Upd.kj (S:=fun j=>cM=some j) q (fun g e _=>e)) (fun g cP e=>by
     obtain⟨o,bs,V⟩:=(b8 g e).2;obtain⟨cs,t,z,cQ⟩:=A.cellsAt cP;rw[cQ]at bs;cases bs;cases V),U,ad.grown q (fun r e=>(b8 r e).2),W,fun j p=>by obtain⟨cs,t,z,h⟩:=a8 j p;exact⟨cs,t,z,bU h⟩,cO⟩)
  (fun _ _ _ _ _ A _ _=>A)
  cH.o
  _ ?assign ?body ?done ?stop
 case assign=>
  intro l x E dl ar
  gi_wp2
  exact ar
 case stop=>
  rintro a7 c aq E _ _ h _;exact h.elim
 case body=>
  rintro l aq ⟨i,bV⟩ E ⟨H,v,aB,aa,hsl,U,X,J,Y,au⟩ hlt;obtain⟨-,-,-,ap,-,-,-,K,-,ak,am,ah,ai,R,aj⟩:=bT.o;have b9:=H.size;have bt:=(H.block _ (zd ap) (aP _ (qXp _) (.inl oM))).trans ap;have dm:E.cell? ⟨k,0,none⟩=some (.pointer (some ⟨b,0,none⟩)):=za bt 0;have bW:=wE (S:=fun j=>aB j\/E.heap.size<=j) (X.wide (fun _ h=> .inl h)) (fun _ h=> .inr h) (base+i) oM;have cR:=qqh bW;have dn:=zd bt;have cT:=zd aa;have cU:=Y14 H aa hsl U X J Y au b9 am ai R aj ak;clear ap K ak aj bt bW H aa hsl U X J Y au am ah ai R b9
  gi_wp2_with fail
  refine⟨trivial,?_⟩;rw[show((base:Int)+(i:Int))=((base+i:Nat):Int) by simp];refine(CallsIn.inRound l (callsIn_wide.2 cR.o)).mono ?_;rintro e D ⟨y,cV,rfl,hy,bX,bu,bY,s⟩;have cW:cV=0:=by rw[bX];rfl
  have bZ:y=curB F O (base+i):=by rw[hy];rfl
  subst cW;obtain⟨H,aa,hsl,U,X,J,Y,au,b9,am,ai,R,aj,ak⟩:=cU.o;obtain⟨bv,bx,aC,W⟩:=bY.exact;have aU:=s.size;have c0:¬(aB (k+5)\/E.heap.size<=k+5):=fun h=>by
   rcases h with h|h
   .exact R _ oM oM (J _ h)
   .omega
  have ba:=(s.block (k+5) cT c0).trans aa;have c3:=hsl.keep s (fun g q h=>by
   rcases h with h|h
   .exact au g q h
   .have:=hsl.lt q;omega)
  obtain⟨aV,aW⟩:=qqe ((D.alloc (.cells (bkC y).toArray 54)).alloc (.cells (bkC y).toArray 54));have aD:Upd (fun _=>False) D aV:=by rw[aW];exact((uur _ D).alloc _).alloc _
  have cX:aV.heap.size=D.heap.size+2:=by rw[aW];simp
  have aT:aV.heap[D.heap.size+1]?=some (.cells (bkC y).toArray 54 (0,0)):=by rw[aW];exact zc _ _ oe
  have bz:=aD.jV ba;have bA:=c3.keep aD (fun _ _ h=>h);obtain⟨cY,cZ,d0,d1,d2,d3,d4⟩:=yv;have dp:aq.length<=4096:=oM;obtain⟨dq,w',bB,bC,aJ,c4⟩:=yy (P:=prog) (m:=1) (x':=.slice (some ⟨D.heap.size+1,0,none⟩) 1 1) (news:=bkC y) 43 43 cY cZ 64 underlying43 d0 d1 d3 d4 d2 de bA
   ⟨by rw[zn,bu],de,_,_,rfl,(fun h=>by cases h),fun b d5 j u p=>by cases d5;rw[qxa,za aT];simpa using p⟩ (zu y) (by simp only[maxLen];omega) oM
  obtain⟨bb,bc,d6⟩:=bC.rd.jW;subst d6;have bD:∀g,v.ownBlock=some g->g≠k+5:=fun g q e=>by
   have:=U g q;omega
  have aX:=(aJ.block (k+5) (zd bz) (fun h=>bD _ h rfl)).trans bz;obtain⟨aE,bd⟩:=qqe (w'.setCell ⟨k+5,0,none⟩ (.slice bb (aq.length+1) bc));have aK:Upd (fun j=>j=k+5) w' aE:=by rw[bd];exact zi _ _ _ _
  have c5:aE.heap[k+5]?=some (.cells #[.slice bb (aq.length+1) bc] 43 (0,0)):=by rw[bd];exact zh aX 0 _
  have be:=za ba 0;have dr:=za aX 0;have ds:=zg aX 0;have dt:=zd ba;have c6:(bkC y).length=64:=by rw[zn,bu]
  have c7:=Vx (.agg (bkC y).toArray) (by simpa[Value.cells]using c6) (D.alloc (.cells (bkC y).toArray 54));have c8:=zv y bu;have c9:(D.alloc (.cells (bkC y).toArray 54)).rangeAt D.heap.size 0 (bkC y):=zf (zc D _ rfl);have bf:∀g,(Value.slice bb (aq.length+1) bc).ownBlock=some g->(v.ownBlock=some g\/aV.heap.size<=g):=fun g q=>by
   rcases c4 with e|⟨aI,e,hge⟩
   .rw [e]at q;exact .inl q
   .rw [e]at q;cases q;exact .inr hge
  have bE:Upd L E aE:=by
   refine(((s.mono (fun j _ h=>?_)).trans (aD.mono fE)).trans (aJ.mono (fun j _ h=>?_))).trans (aK.mono (fun j _ h=>h▸am))
   .rcases h with h|h
    .exact ai _ (J _ h)
    .exact aO _ oM
   .rcases U j h with rfl|h
    .exact ak
    .exact aO _ oM
  have bg:∀j,bv j->v.ownBlock≠some j:=fun j p e=>by
   rcases aC j p with h|h
   .exact au j e h
   .have:=hsl.lt e;omega
  have bF:∀j,bv j->j≠k+5:=fun j p e=>by
   rcases aC j p with h|h
   .exact R _ oM oM (J _ (e▸h))
   .omega
  have cb:KeepsOthers E aE/\Upd L E aE/\PrI L a7 N b (k+5) (k+4) F O base (aq++[(⟨i,bV⟩:{i:Nat//i<m})]) aE:=by
   refine⟨?_,bE,H.trans bE,_,bv,c5,?_,fun g q=>?_,?_,fun j p=>?_,fun j p=>?_,fun g q A=>?_⟩
   .have ae:KeepsOthers E D:=zA s (fun j p cJ=>by
     rcases p with p|p
     .exact Y j p
     .omega)
    have af:KeepsOthers D aV:=⟨oM,fun du o d7 bs=>aD.jV d7⟩
    exact((ae.trans af).trans (zA aJ (fun j p _=>bA.cellsAt p))).trans (zA aK (fun j p _=>⟨_,_,_,p▸aX⟩))
   .rw [qyy,qzg];show Sl aE _ _ _ _ (rowC (_++[curB F O (base+i)]));rw[we,<-bZ];exact bC.keep aK (fun g q e=>by
     rcases bf g q with h|h
     .exact bD g h e
     .omega)
   .rcases bf g q with h|h
    .exact U g h
    .right;omega
   .exact ((bx.keep aD (fun _ _ h=>h)).keep aJ (fun j p h=>bg j p h)).keep aK (fun j p e=>bF j p e)
   .rcases aC j p with h|h
    .exact J j h
    .exact aj j oM
   .obtain ⟨cs,t,z,V⟩:=W j p;have q1:=aD.jV V;have q2:=(aJ.block j (zd q1) (fun h=>bg j p h)).trans q1;exact⟨cs,t,z,(aK.block j (zd q2) (fun e=>bF j p e)).trans q2⟩
   .rcases bf g q with h|h
    .exact bg g A h
    .obtain ⟨cs,t,z,V⟩:=W g A;have:=zd V;omega
  have d8:=qqh cb;have d9:=qqh bd;rw[aW]at bB;have cc:=qqh bB;clear cb bE bg bF bd bB aW aD cX aT bz bA bC aJ c4 bf bD aK c5 bx aC W aU c0 ba c3 H aa hsl U X J Y au b9 am ai R aj ak hy bX bZ bY s aX
  gi_wp2_with (first
   |(refine xD rfl _ _ _ rfl _ _ (bkC y) rfl rfl (by rw[c6];rfl) c8 (zu y) ?_)
   |(refine yM rfl 54 _ rfl _ _ rfl _ _ c9 underlying54 rfl c8 ?_)
   |(refine Yu rfl 43 54 _ rfl (bkC y) rfl c7 ?_)
   |(gi_at_builtin;refine Stop.i ?_)
   |fail)
  refine Yv rfl _ _ 43 rfl v (.slice (some ⟨D.heap.size+1,0,none⟩) 1 1) ?a1 ?a2 (.slice bb (aq.length+1) bc) w' ?a3 ?a4
  case a1=>rfl
  case a2=>rfl
  case a3=>
   dsimp only
   with_reducible exact cc.out
  case a4=>
   clear c9 c7 cc
   gi_wp2
   rw[<-d9.o];exact d8.o
 case done=>
  rintro aY cd E ah bG ⟨H,v,aB,aa,hsl,U,X,J,Y,au⟩ ar;obtain⟨-,-,-,ap,aR,aI,aS,K,a6,ak,am,aZ,ai,R,aj⟩:=bT.o;have da:cd.length=m:=by have:=congrArg List.length bG;simpa using this
  have ce:cd.map (fun x=>curB F O (base+x.1))=secsOf F O base m:=by
   unfold secsOf;rw[<-bG,qzi];rfl
  rw[da,ce]at hsl;obtain⟨db,dc,rfl⟩:=hsl.rd.jW;have dw:=za aa 0;have dx:=zd aa;have cf:Nib E:=aH.o.2.2.1.keep (S:=fun j=>L j) ((a6.mono fE).trans H) (fun h=>by
   rw[K]at h;have:=aH.o.2.2.1.lt;have ag:=b7.o;rcases h with h|h|h
   .exact aH.o.2.2.2.1 h.1
   .omega
   .omega)
  have ch:All64 (secsOf F O base m):=fun x hx=>by
   obtain⟨i,-,rfl⟩:=qzq.1 hx;exact uz X.good _
  have dd:=xf F O base m;have df:=qqh (Ee (w:=E) (v:=.slice db m dc) (l:=secsOf F O base m) (by rw[dd];exact hsl.rd) ch oM oM cf);have ag:=b7.o;have bh:∀(j:Nat) (o:Obj),k<=j->j<k+4->N.heap[j]?=some o->E.heap[j]?=some o:=fun j o h1 h2 h=>(H.block j (zd h) (aP _ h1 (.inl h2))).trans h;have q1:=bh _ _ oM oM aR;have q2:=bh _ _ oM oM aI;have b0:=bh _ _ oM oM aS;have dg:=Y13 H hsl U X J Y ar a6 K aZ q1 q2 b0;generalize secsOf F O base m=l at*;clear ap aR aI aS K a6 ak am aZ ai R aj H aa hsl U X J Y au ar cf ch ce bG bh q1 q2 b0 ag
  gi_wp2_with fail
  go_wp2_with fail
  refine df.o.mono ?_;rintro e D ⟨dy,rfl,aU,ci,cj⟩;obtain⟨H,hsl,U,X,J,Y,ar,a6,K,aZ,q1,q2,b0⟩:=dg.o;have s:=qqb cj;have b1:=s.jV q1;have aL:=s.jV q2;have av:=s.jV b0;have bi:=s.jV ar;obtain⟨bH,be,rfl⟩:=aU.rd.jW;have ag:=b7.o;have cl:k+8<=E.heap.size:=by have:=H.size;omega
  have aw:=aH.o.2.1;have co:∀(x y z:Value),∃an,an=(((D.setCell ⟨k+1,0,none⟩ x).setCell ⟨k+1+1,0,none⟩ y).setCell ⟨k+1+1+1,0,none⟩ z).putObj aY (.deferred none)/\
    (((D.setCell ⟨k+1,0,none⟩ x).setCell ⟨k+1+1,0,none⟩ y).setCell ⟨k+1+1+1,0,none⟩ z).heap[aY]?=some (.deferred (some []))/\an.cell? ⟨k+1,0,none⟩=some x/\an.cell? ⟨k+1+1,0,none⟩=some y/\an.cell? ⟨k+1+1+1,0,none⟩=some z/\Dv (fun j=>S j/\j<E.heap.size) an b F O []/\Upd S w an/\(∀u n bI,Sl D 132 4 u n bI->From E.heap.size u->Sl an 132 4 u n bI):=by
   intro x y z;have bj:=zi D (k+1) 0 x;have bk:=zi (D.setCell ⟨k+1,0,none⟩ x) (k+1+1) 0 y;have u3:=zi ((D.setCell ⟨k+1,0,none⟩ x).setCell ⟨k+1+1,0,none⟩ y) (k+1+1+1) 0 z;have cp:=zh b1 0 x;have aC:=zh ((bj.block _ (zd aL) oM).trans aL) 0 y;have cq:=zh ((bk.block _ (by simpa using zd av) oM).trans ((bj.block _ (zd av) oM).trans av)) 0 z;have aQ:=(bj.block _ (zd bi) oM).trans bi;have W:=(bk.block _ (zd aQ) oM).trans aQ;have a8:=(u3.block _ (zd W) oM).trans W;have bl:=wP (((D.setCell ⟨k+1,0,none⟩ x).setCell ⟨k+1+1,0,none⟩ y).setCell ⟨k+1+1+1,0,none⟩ z) aY (.deferred none);have bJ:Upd (fun j=>j=k+1\/j=k+1+1\/j=k+1+1+1\/j=aY) D _:=(((bj.mono (fun _ _ h=> .inl h)).trans (bk.mono (fun _ _ h=> .inr (.inl h)))).trans (u3.mono (fun _ _ h=> .inr (.inr (.inl h))))).trans (bl.mono (fun _ _ h=> .inr (.inr (.inr h))));refine⟨_,rfl,a8,?_,?_,?_,?_,?_,?_⟩
   .have cr:=(bk.block _ (zd cp) oM).trans cp;have ct:=(u3.block _ (zd cr) oM).trans cr;exact(bl.cellAt (zd ct) oM).trans (za ct 0)
   .have cu:=(u3.block _ (zd aC) oM).trans aC;exact(bl.cellAt (zd cu) oM).trans (za cu 0)
   .exact (bl.cellAt (zd cq) oM).trans (za cq 0)
   .have cv:=(X.keep s (fun _ _ h=>h)).keep bJ (fun j p h=>by
     obtain⟨cs,t,cx,V⟩:=Y j p;rcases h with h|h|h|h
     .exact R j oM oM (J j p)
     .exact R j oM oM (J j p)
     .exact R j oM oM (J j p)
     .rw [h,ar]at V;cases V)
    exact cv.wide (fun j p=>by
     have:=J j p;obtain⟨cs,t,cx,V⟩:=Y j p;rw[aZ]at this;refine⟨?_,zd V⟩;rcases this with h|h
     .exact h.1
     .exact aw j oM)
   .have dh:Upd (fun j=>L j\/j=k+1\/j=k+1+1\/j=k+1+1+1\/j=aY) N _:=((H.mono (fun _ _ h=> .inl h)).trans (s.mono fE)).trans (bJ.mono (fun _ _ h=> .inr h));refine(a6.mono fE).new dh (fun i bV A=>?_);rcases A with A|A|A|A|A
    .rw [K]at A;rcases A with A|A|A
     .exact A.1
     .omega
     .omega
    .omega
    .omega
    .omega
    .omega
   .intro u n bI h1 h2;exact h1.keep bJ (fun g q h=>by
     have:=h2 g q;rcases h with h|h|h|h
     .omega
     .omega
     .omega
     .obtain ⟨cs,t,cx,V⟩:=h1.cellsAt q;rw[h,bi]at V;cases V)
  have ab:=Y4 co aU ci cl;have dz:=zg b1 0;have dA:=zg aL 0;have dB:=zg av 0;have cv:=za b1 0;have bx:=za aL 0;have dC:=za av 0;have dD:=zd av;have dE:=Y3 b1 aL av;clear co aU ci cl H hsl U X J Y ar a6 K aZ q1 q2 b0 s b1 aL av bi ag aw cj;have di:w.heap.size<=E.heap.size:=by have:=b7.o;have:=ab.o.2.2.2;omega
  cases aM:readOk l with
  |false=>
   simp only[aM]at ab;rw[if_neg de]at ab⊢;have b2:=qqh aM;clear aM;go_wp2_with fail
   obtain⟨an,bK,a8,c1,c2,bL,dv,bM,sl⟩:=ab.o.1 (.int .i64 0) (.slice none 0 0) (.int .i64 14);refine⟨oe,.inl ⟨_,_,rfl,run_takeDeferred a8,?_⟩⟩;rw[<-bK];refine⟨.tuple #[.int .i64 0,.slice none 0 0,.int .i64 14],by simp[results,results172,go_sem,c1,c2,bL],.slice none 0 0,by rw[b2.out];rfl,by rw[b2.out];exact Sl.nil _ _ _,From.nil _ _ _,dv.wide (fun j p=>⟨p.1,fun g q=>by cases q⟩),bM⟩
  |true=>
   simp only[aM]at ab⊢
   try simp only[if_true]
   have b2:=qqh aM;clear aM;go_wp2_with fail
   obtain⟨an,bK,a8,c1,c2,bL,dv,bM,sl⟩:=ab.o.1 (.int .i64 (readSeq l:Nat)) (.slice bH (readEs l).length be) (.int .i64 0);refine⟨oe,.inl ⟨_,_,rfl,run_takeDeferred a8,?_⟩⟩;rw[<-bK];refine⟨.tuple #[.int .i64 (readSeq l:Nat),.slice bH (readEs l).length be,.int .i64 0],by simp[results,results172,go_sem,c1,c2,bL],.slice bH (readEs l).length be,by rw[b2.out];rfl,by rw[b2.out];exact sl _ _ _ ab.o.2.1 ab.o.2.2.1,ab.o.2.2.1.mono di,dv.wide (fun j p=>⟨p.1,fun g q=>by have:=ab.o.2.2.1 g q;omega⟩),bM⟩
end
section
def nwS(F:List Bk)(O:List (Nat×Bk))(base m:Nat):Nat->Bool×Nat×Nat×List Ent
 |0=>(false,0,0,[])
 |k+1=>if readOk (secsOf F O (base+k*m) m)&&(!(nwS F O base m k).1||decide ((nwS F O base m k).2.2.1<readSeq (secsOf F O (base+k*m) m)))then(true,k,readSeq (secsOf F O (base+k*m) m),readEs (secsOf F O (base+k*m) m))else nwS F O base m k
theorem Ev{F:List Bk}{O:List (Nat×Bk)}{base m:Nat}:∀{k:Nat},(nwS F O base m k).1=false->nwS F O base m k=(false,0,0,[])
 |0,_=>rfl
 |k+1,h=>by
  rw[nwS]at h⊢;split at h
  .cases h
  .next j=>rw[if_neg j];exact Ev h
theorem zdM{P:List Int}(h:Dv S w b F O P)(base m:Nat)(h1:1<=m)(h2:base+2*m<=F.length):
  Calls prog 97 #[.pointer (some ⟨b,0,none⟩),.int .i64 (base:Int),.int .i64 (m:Int),.int .i64 2] w fun e w'=>e=.returned (.bool true)/\w=w':=by
 have j:=h.good.fl;have k:¬((base:Int)>(F.length:Int)):=oM;have p:(m:Int)<=((F.length:Int)-(base:Int)).tdiv 2:=by
  rw[Int.tdiv_eq_ediv_of_nonneg oM];omega
 have q:¬((m:Int)<1):=oM;have s:¬((base:Int)<0):=oM;have A:0<=((F.length:Int)-(base:Int)):=oM;have q1:decide ((F.length:Int)<(base:Int))=false:=by simp;omega
 go_enter func97,ntmps97
 go_wp2_with (first
  |(go_at_call 55;refine(tT h).mono ?_;rintro e w' ⟨rfl,rfl⟩)
  |fail)
 go_ret
 refine⟨?_,rfl⟩;simp;omega
def NwOut(S:Nat->Prop)(w:World)(b:Nat)(F:List Bk)(O:List (Nat×Bk))(r:Bool×Nat×Nat×List Ent)(e:Ending)(w':World):Prop:=
 ∃v,e=.returned (.tuple #[.int .i64 (r.2.1:Nat),.int .i64 (r.2.2.1:Nat),v,.int .i64 (if r.1 then 0 else 14)])/\Sl w' 132 4 v r.2.2.2.length (r.2.2.2.flatMap entC)/\From w.heap.size v/\Dv (fun j=>S j/\∀g,v.ownBlock=some g->g≠j) w' b F O []/\Upd S w w'
theorem zbl(p:Dv S w b F O [])(a7:∀q,w.heap.size<=q->S q)(base m:Nat)(a8:1<=m)(af:base+2*m<=F.length)(aa:Nib w)(ab:¬S 1):
  Calls prog 102 #[.pointer (some ⟨b,0,none⟩),.int .i64 (base:Int),.int .i64 (m:Int)] w (NwOut S w b F O (nwS F O base m 2)):=by
 have ao:=p.good.fl;have ag:=qqh (zdM p base m a8 af);have R:=Y4 p a7 aa ab;clear p a7 aa ab;go_enter func102,ntmps102
 go_wp2_with fail
 refine ag.o.mono ?_;rintro e w' ⟨rfl,rfl⟩;go_wp2_with fail
 go_loopg[6,7,8,10,22] 2 (fun gk ah ai Y aj ak wr=>∃j:Nat,∃f J z L,j+gk=2/\ak=.int .i64 (j:Int)/\(f,J,z,L)=nwS F O base m j/\aj=.bool f/\ah=.int .i64 (J:Nat)/\ai=.int .i64 (z:Nat)/\Sl wr 132 4 Y L.length (L.flatMap entC)/\From w.heap.size Y/\Dv (fun q=>S q/\∀g,Y.ownBlock=some g->g≠q) wr b F O []/\Upd S w wr)
 case atStart=>exact⟨0,false,0,0,[],oM,rfl,rfl,rfl,rfl,rfl,Sl.nil _ _ _,From.nil _ _ _,R.o.1.kw (fun q h1 h2=>⟨h1,fun g A=>by cases A⟩),uur _ _⟩
 case round=>
  obtain⟨j,f,J,z,L,T,rfl,M,rfl,rfl,rfl,hsl,D,p,k⟩:=hrel;have V:Nib wr:=R.o.2.2.1.keep k R.o.2.2.2;by_cases hlt:j<2
  .have am:(j:Int)<2:=oM;have ap:j*m<=1*m:=qXv m oM;have an:∀g,u8.ownBlock=some g->g<wr.heap.size:=fun g A=>hsl.lt A;have Z:=qqh (zfE (S:=fun q=>S q/\∀g,u8.ownBlock=some g->g≠q) p (fun q s=>⟨R.o.2.1 q (by have:=k.size;omega),fun g A=>by have:=an g A;omega⟩) (base+j*m) m a8 oM V (fun h=>R.o.2.2.2 h.1));rw[show((base+j*m:Nat):Int)=(base:Int)+(j:Int)*(m:Int) by simp]at Z;have E:nwS F O base m (j+1)=if readOk (secsOf F O (base+j*m) m)&&(!f||decide (z<readSeq (secsOf F O (base+j*m) m)))then(true,j,readSeq (secsOf F O (base+j*m) m),readEs (secsOf F O (base+j*m) m))else(f,J,z,L):=by
    rw[nwS,<-M]
   have H:=Y6 hsl D p k T E;have aq:(0:Int)<=(j:Int)*(m:Int):=by rw[<-Int.natCast_mul];omega
   have ar:(base:Int)+(j:Int)*(m:Int)<=4096:=by rw[<-Int.natCast_mul];omega
   have au:(j:Int)*(m:Int)<=4096:=by rw[<-Int.natCast_mul];omega
   clear hsl D p k V M E;go_wp2_with fail
   refine Z.o.mono ?_;rintro e av ⟨aw,rfl,W,ad,X,N⟩;generalize secsOf F O (base+j*m) m=l at*;clear Z;cases U:readOk l with
   |false=>
    have ax:=qqh U;rw[U]at H W;clear U;go_wp2_with fail
    go_roundg (gk-1)
    case measure=>have:=H.o.2.2.2.2.1;omega
    case rel=>
     obtain⟨hsl,D,p,k,T,E⟩:=H.o;exact⟨j+1,f,J,z,L,oM,by go_num,by rw[E,if_neg oe],rfl,rfl,rfl,hsl.keep N (fun g A h=>h.2 g A rfl),D,X.wide (fun q s=>s.1),k.trans (N.mono (fun _ _ h=>h.1))⟩
   |true=>
    simp only[U,if_true]at H W⊢;clear U;cases f with
    |false=>
     go_wp2_with fail
     go_roundg (gk-1)
     case measure=>have:=H.o.2.2.2.2.1;omega
     case rel=>
      obtain⟨hsl,D,p,k,T,E⟩:=H.o;exact⟨j+1,true,j,readSeq l,readEs l,oM,by go_num,by rw[E,if_pos oe],rfl,rfl,rfl,W,ad.mono k.size,X.wide (fun q s=>⟨s.1.1,s.2⟩),k.trans (N.mono (fun _ _ h=>h.1))⟩
    |true=>
     by_cases K:z<readSeq l
     .have q1:(z:Int)<(readSeq l:Int):=oM;go_wp2_with fail
      go_roundg (gk-1)
      case measure=>have:=H.o.2.2.2.2.1;omega
      case rel=>
       obtain⟨hsl,D,p,k,T,E⟩:=H.o;exact⟨j+1,true,j,readSeq l,readEs l,oM,by go_num,by rw[E,if_pos (by simp[K])],rfl,rfl,rfl,W,ad.mono k.size,X.wide (fun q s=>⟨s.1.1,s.2⟩),k.trans (N.mono (fun _ _ h=>h.1))⟩
     .have q1:¬(z:Int)<(readSeq l:Int):=oM;go_wp2_with fail
      go_roundg (gk-1)
      case measure=>have:=H.o.2.2.2.2.1;omega
      case rel=>
       obtain⟨hsl,D,p,k,T,E⟩:=H.o;exact⟨j+1,true,J,z,L,oM,by go_num,by rw[E,if_neg (by simp[K])],rfl,rfl,rfl,hsl.keep N (fun g A h=>h.2 g A rfl),D,X.wide (fun q s=>s.1),k.trans (N.mono (fun _ _ h=>h.1))⟩
  .obtain rfl:j=2:=oM;have am:¬(((2:Nat):Int)<2):=de;have K:NwOut S w b F O (f,J,z,L) (.returned (.tuple #[.int .i64 (J:Nat),.int .i64 (z:Nat),u8,.int .i64 (if f then 0 else 14)])) wr:=⟨u8,rfl,hsl,D,p,k⟩
   rw[M]at K;cases f with
   |false=>
    have ae:=Ev (by rw[<-M]);have K:NwOut S w b F O (nwS F O base m 2) (.returned (.tuple #[.int .i64 0,.int .i64 0,.slice none 0 0,.int .i64 14])) wr:=by
     rw[ae];exact⟨.slice none 0 0,rfl,Sl.nil _ _ _,From.nil _ _ _,p.wide (fun q s=>⟨s.1,fun g A=>by cases A⟩),k⟩
    have a6:=qqh K;clear K hsl D p k V M ae;go_wp2_with fail
    exact qYq (v:=.tuple #[.int .i64 0,.int .i64 0,.slice none 0 0,.int .i64 14]) (by simp[results,results102,go_sem]) rfl a6.o
   |true=>
    have a6:=qqh K;clear K hsl D p k V M;go_wp2_with fail
    exact qYq (v:=.tuple #[.int .i64 (J:Nat),.int .i64 (z:Nat),u8,.int .i64 0]) (by simp[results,results102,go_sem]) rfl a6.o
def Ent.In(e:Ent):Prop:=e.b<=4095/\e.s<=1023/\e.m<=4294967295
theorem VU{b:Bk}(h:okP b=true):∀e∈pgEnts b,e.In:=by
 intro e D;have k:=Tl h;obtain⟨-,-,-,-,K⟩:=yF h;unfold mayP at k;rw[qxo,qxo]at k;obtain⟨i,E,rfl⟩:=qzq.1 D;have L:=qzs.1 E;have q:=k.2;unfold entsB at q;have:=qxu.1 q i (qzs.2 oM);unfold entB at this;have H:(natsI (numsP b)).getD 3 0=(pgMany b:Int):=zU _ _;rw[H,if_pos oM]at this;have J:(natsI (numsP b)).length=20:=by simp[natsI,numsP,zR,UV]
 have M:(rowI (natsI (numsP b)) i).length=4:=xV J oM;have p:=yh this (i:=0) de oM;have w1:=yh this (i:=1) de oM;have s:=yh this (i:=3) de oM;have e:∀j (A:j<(rowI (natsI (numsP b)) i).length),(rowI (natsI (numsP b)) i)[j]=((numsP b).getD (4+4*i+j) 0:Nat):=fun j A=>by
  rw[<-zU,<-xy _ _ _ oM,qyf,qyj A];rfl
 rw[e]at p w1 s;simp only[bndE,qys,qyr]at p w1 s;unfold Ent.In qa;dsimp only;rw[qXm]at p;omega
theorem VV{l:List Bk}(h:readOk l=true):(∀e∈readEs l,e.In)/\(readEs l).length<=4*l.length/\readSeq l<=1099511627776:=by
 unfold readOk at h;rw[qxo,qxo]at h;have D:=of_decide_eq_true h.2.1;have k:∀i<readOf l,okP (l.getD i zB)=true:=fun i p=>by
  have:=qxu.1 h.2.2 i (qzs.2 oM);unfold goesP at this;rw[if_neg oM,qxo]at this;exact this.1
 refine⟨fun e q=>?_,?_,(yF h.1).1⟩
 .obtain ⟨i,p,s⟩:=qzp.1 q;exact VU (k i (qzs.1 p)) e s
 .have:∀j≤readOf l,(entsTo l j).length<=4*j:=by
   intro j
   induction j with
   |zero=>intro _;exact qXp _
   |succ j A=>
    intro E;have:=A oM;have H:=(yF (k j oM)).2.2.2.2;unfold entsTo at this⊢;rw[qXc,qyd,qyy];simp only[qye,List.flatMap_nil,qxw,pgEnts,qzb,List.length_range];simp only[pgEnts]at this;omega
  have:=this _ (qXp _);show(entsTo l (readOf l)).length<=_;omega
theorem zbm(F:List Bk)(O:List (Nat×Bk))(base m:Nat)(k:∀B,(secsOf F O B m).length=m):∀h,(∀e∈(nwS F O base m h).2.2.2,e.In)/\(nwS F O base m h).2.2.2.length<=4*m/\(nwS F O base m h).2.2.1<=1099511627776:=by
 intro h
 induction h with
 |zero=>exact⟨fun e j=>by simp[nwS]at j,by simp[nwS],by simp[nwS]⟩
 |succ h p=>
  rw[nwS];split
  .rename_i j
   rw[qxo]at j;obtain⟨h1,h2,q⟩:=VV j.1;rw[k]at h2;exact⟨h1,h2,q⟩
  .exact p
theorem sa(F:List Bk)(O:List (Nat×Bk))(base n:Nat):∀j,∀r∈scanTo F O base n j,rseq r<=1099511627776/\r.getD 3 0<=4095/\r.getD 4 0<=1023:=by
 intro j
 induction j with
 |zero=>intro r h;cases h
 |succ j q=>
  intro r h;rw[scanTo,qzl]at h;rcases h with h|h
  .exact q r h
  .unfold scL at h;split at h
   .rename_i k
    unfold Ef at k;rw[qxo]at k;have p:=rW k.1;rw[qzt]at h;subst h;exact⟨p.2.1,p.2.2.2.2.1,p.2.2.2.2.2.1⟩
   .cases h
theorem zbn(L:List (List Nat))(after:Nat):∀r∈(repS L after).d,r∈L:=by
 have:∀(L:List (List Nat)) (j:RepS),∀r∈(L.foldl repStep j).d,r∈L\/r∈j.d:=by
  intro L
  induction L with
  |nil=>intro j r h;exact .inr h
  |cons x L k=>
   intro j r h;rcases k _ r h with h|h
   .exact .inl (qzn _ h)
   .unfold repStep at h;split at h
    .rw [qzl,qzt]at h;rcases h with h|rfl
     .exact .inr h
     .exact .inl qzo
    .exact .inr h
 intro r h;rcases this L _ r h with h|h
 .exact h
 .cases h
def Ent.toI(e:Ent):EI:=⟨e.b,e.s,e.d,e.m⟩
theorem se(L:List Ent):(L.map Ent.toI).flatMap EI.cs=L.flatMap entC:=by
 rw[List.flatMap_map];rfl
theorem VW(L:List (List Nat)):(L.map natsI).flatMap dsR=L.flatMap recCs:=by
 rw[List.flatMap_map];rfl
theorem zdN{D:Nat->Prop}{L M N p g:Nat}{base n:Nat}(h:ScI D w b p F O [] w)(s:∀T,w.heap.size<=T->D T)(A:p<w.heap.size/\¬D p)
  (h1:w.cell? ⟨L,0,none⟩=some (.pointer (some ⟨b,0,none⟩))/\¬D L/\L≠p) (h2:w.cell? ⟨M,0,none⟩=some (.int .i64 (n:Int))/\¬D M/\M≠p) (E:w.cell? ⟨N,0,none⟩=some (.int .i64 (base:Int))/\¬D N/\N≠p)
  (q:w.heap[g]?=some (.cells (ints (secL base n n)).toArray 3 (0,0))/\¬D g/\g≠p) (Y:n<=1024) (Z:base+n<=F.length) (H:Nib w) (J:¬D 1/\1≠p):
  Calls prog 174 #[.slice (some ⟨g,0,none⟩) n n,.func (.func 176) #[] #[.pointer (some ⟨L,0,none⟩),.pointer (some ⟨M,0,none⟩),.pointer (some ⟨N,0,none⟩),.pointer (some ⟨p,0,none⟩)]] w fun e w'=>
   e=.returned (.int .i64 0)/\ScI D w b p F O (scanTo F O base n n) w':=by
 have U:=Y9 h s A h1 h2 E q H J;clear h s A h1 h2 E q H J;go_enter func174,ntmps174
 go_wp2
 go_step3
 go_wp2
 go_step3
 go_wp2_with fail
 go_loopg[5,10] n (fun gk a6 a7 wr=>∃j:Nat,j+gk=n/\a7=.int .i64 (j:Int)/\a6=.int .i64 0/\ScI D w b p F O (scanTo F O base n j) wr)
 case atStart=>exact⟨0,oM,rfl,rfl,U.o.1⟩
 case round=>
  obtain⟨j,aa,rfl,rfl,K⟩:=hrel;by_cases hlt:j<n
  .have a8:(j:Int)<(n:Int):=oM;have ab:(0:Int)<=(j:Int):=oM;obtain⟨h,s,A,h1,h2,E,q,H,J⟩:=U.o;have V:=(K.1.block g (zd q.1) (fun h=>h.elim q.2.1 q.2.2)).trans q.1;have cg:wr.cell? ⟨g,j,none⟩=some (.int .i64 ((base:Int)+(j:Int))):=by
    rw[za V,qyq,yp (by rw[Xu];exact hlt)];simp only[secL,qyt,List.getElem_range,if_pos hlt,qxr]
   have W:=qqh (zfy (k:=j) K s A h1 h2 E hlt Y Z (qXr (wj F O base n j) oM) H J);clear h s A h1 h2 E q H J V K;go_wp2_with fail
   refine W.o.mono ?_;rintro e ad ⟨rfl,X⟩;have R:=qqh X;clear X W cg;go_wp2_with fail
   go_roundg (gk-1)
   case measure=>omega
   case rel=>exact⟨j+1,oM,by go_num,rfl,R.o⟩
  .obtain rfl:j=n:=oM;have a8:¬((j:Int)<(j:Int)):=oM;have R:=qqh K;clear K;go_wp2_with fail
   try rw[qxq]
   go_ret
   exact⟨rfl,R.o⟩
section
variable{own own':Nat->Nat}{w w':World}{ssd back:Nat}{F G:List Bk}{O Q:List (Nat×Bk)}{P:List Int}
theorem Dvs.kf(h:Dvs own w ssd back F O G Q P)(p:Upd S w w')(s:∀j,S j->own j=0/\j≠1/\j≠0):Dvs own w' ssd back F O G Q P:=by
 have D:∀(A j:Nat),A≠0->own j=A->¬S j:=fun A j E k q=>E (k.symm.trans (s j q).1);exact{h with
  ssd:=h.ssd.keep p (fun j k=>D _ j de k)
  back:=h.back.keep p (fun j k=>D _ j de k)
  far:=fun j k=>h.far j (qXr p.size k)
  nib:=h.nib.keep p (fun q=>(s _ q).2.1 rfl)
  tur:=h.tur.keep p (fun q=>(s _ q).2.2 rfl)}
theorem Dvs.handed(p:Dvs own w ssd back F O G Q P)(s:From w.heap.size v)(_:∀g,v.ownBlock=some g->g<w'.heap.size)(A:Upd (fun h=>own h=2\/w.heap.size<=h) w w')
  (D:Dv (fun h=>(own h=2\/w.heap.size<=h)/\∀g,v.ownBlock=some g->g≠h) w' ssd F O []):
  ∃own',Dvs own' w' ssd back F O G Q P/\Did own own' w w'/\∀g,v.ownBlock=some g->w.heap.size<=g/\own' g=0:=by
 have h1:=p.kz A (D.wide (fun h p=>p.1));have q:=p.did2 A;have H:∀h,h<w.heap.size->v.ownBlock≠some h:=fun h j e=>by have:=s h e;omega
 refine⟨fun h=>if v.ownBlock=some h then 0 else grow own 2 w.heap.size w'.heap.size h,⟨?_,?_,fun h j=>?_,h1.nib,h1.tur,?_,?_⟩,⟨q.upd,fun h j=>?_,fun h j=>?_,fun h j=>?_⟩,fun g E=>⟨s g E,by show(if v.ownBlock=some g then 0 else _)=0;rw[if_pos E]⟩⟩
 .refine (Dv.kD _ _ _ _).out D (fun h j k=>?_);show(if v.ownBlock=some h then 0 else grow own 2 w.heap.size w'.heap.size h)=2;rw[if_neg (fun e=>k.2 h e rfl)];unfold grow;split
  .rfl
  .rcases k.1 with p|p
   .exact p
   .omega
 .refine (Dv.kD _ _ _ _).out h1.back (fun h j k=>?_);show(if v.ownBlock=some h then 0 else grow own 2 w.heap.size w'.heap.size h)=3;rw[if_neg ?_]
  .exact k
  .intro e;have:=s h e;have k:grow own 2 w.heap.size w'.heap.size h=3:=k;unfold grow at k;rw[if_pos ⟨this,j⟩]at k;cases k
 .show (if v.ownBlock=some h then 0 else _)=0;split
  .rfl
  .exact q.far h j
 .show (if v.ownBlock=some _ then 0 else _)=0;split
  .rfl
  .exact h1.on
 .show (if v.ownBlock=some _ then 0 else _)=0;split
  .rfl
  .exact h1.ot
 .show (if v.ownBlock=some h then 0 else _)=_;rw[if_neg (H h j)];exact q.old h j
 .show (if v.ownBlock=some h then 0 else _)<16;split
  .decide
  .exact q.new h j
 .show (if v.ownBlock=some h then 0 else _)=0;split
  .rfl
  .exact q.far h j
end
theorem tL(p:List Bk)(base:Nat)(B:List Bk):∀k j,(flushF p (ckO base k B))[j]?=if base<=j/\j<base+k/\j<p.length then some (B.getD (j-base) zB)else p[j]?
 |0,j=>by rw[if_neg oM];rfl
 |k+1,j=>by
  rw[SY,xK,qyo,tL p base B k j,zM];show(if base+k=j then(if base+k<p.length then some (B.getD k zB)else none)else _)=_;by_cases h:base+k=j
  .subst h;rw[if_pos rfl];by_cases q:base+k<p.length
   .rw [if_pos q,if_pos oM,Nat.add_sub_cancel_left]
   .rw [if_neg q,if_neg oM,qyk oM]
  .rw [if_neg h];by_cases h1:base<=j/\j<base+k/\j<p.length
   .rw [if_pos h1,if_pos oM]
   .rw [if_neg h1,if_neg oM]
theorem Yw(F:List Bk)(O:List (Nat×Bk))(base m i:Nat)(h:i<m):(secsOf F O base m).getD i zB=curB F O (base+i):=by
 unfold secsOf;rw[qyf,qym,List.getElem?_range h];rfl
theorem Ws(A:List Bk)(base:Nat)(B:List Bk)(k s:Nat):(flushF A (ckO base k B)).getD s zB=if base<=s/\s<base+k/\s<A.length then B.getD (s-base) zB else A.getD s zB:=by
 rw[qyf,tL];split
 .rfl
 .rw [qyf]
open Go Go.RowKit Go.Shelf Go.Lib Tryz
def zfF(S:Nat->Prop)(w:World)(d s15:Nat)(F:List Bk)(O:List (Nat×Bk))(e:Ending)(w':World):Prop:=
 e=.returned (.int .i64 0)/\∃w2,Dv S w2 d F O []/\Upd S w w2/\w'=w2.setCell ⟨s15,0,none⟩ (.slice none 0 0)
theorem zho{li lc lf d base k j h:Nat}(A:LgsZ S w li lc lf d base k F O)(D:w.heap[j]?=some (.cells #[ptr li,ptr lc,ptr lf] 93 (0,0)))
  (E:w.heap[h]?=some (.cells #[x] 94 (0,0))) (H:¬S h):
  Calls prog 69 #[ptr j,ptr h] w (zfF S w d h F O):=by
 have J:=qqh (VF A);have K:w.rangeAt j 0 [ptr li,ptr lc,ptr lf]:=zf D;have p:=Y2 E H;clear A D E H;go_enter func69,ntmps69
 go_wp2_with (first
  |(refine qZa rfl _ _ rfl _ _ rfl _ _ K underlying93 rfl wo ?_)
  |fail)
 refine J.o.mono ?_;rintro e N ⟨rfl,L,q⟩;have s:=(q.block _ (zd p.o.1) p.o.2).trans p.o.1;have R:=za s 0;have T:=zg s 0;have M:=Y2 L q;clear L q s K J;go_wp2
 go_ret
 exact⟨rfl,N,M.o.1,M.o.2,rfl⟩
end
section
theorem VX(F:List Bk)(O:List (Nat×Bk)):yY F O []=F:=by simp[yY]
end
end Go.Proofs.YtbnpkobbnjihjaaGreatDoor
