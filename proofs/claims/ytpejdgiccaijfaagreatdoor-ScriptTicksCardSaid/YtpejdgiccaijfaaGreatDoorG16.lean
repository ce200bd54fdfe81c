/- A cache: Check -/
import Derived.Test.YtpejdgiccaijfaaGreatDoorG12
import Derived.Test.YtpejdgiccaijfaaGreatDoorG10
import Derived.Test.YtpejdgiccaijfaaGreatDoorG11
import Derived.Test.YtpejdgiccaijfaaGreatDoorG13
set_option maxRecDepth 100000
set_option maxHeartbeats 2000000
namespace Go.Proofs.YtpejdgiccaijfaaGreatDoor
open Go Go.RowKit Tryz
variable{b ssd back seq:Nat}{w:World}{own0:Nat->Nat}{dF bF:List Bk}{dO bO:List (Nat×Bk)}{dP bP:List Int}
section
open Go.Shelf
attribute [local go_sem] qYb
section
variable{own own':Nat->Nat}{w w':World}{c:Nat}{n:CaN}{p:CaP}{a:CaS}
def Box(own:Nat->Nat)(w:World)(b:Nat)(o:Obj):Prop:=w.heap[b]?=some o/\own b=0
theorem Box.did{o:Obj}(h:Box own w b o)(j:Did own own' w w'):Box own' w' b o:=
 ⟨(j.upd.block b (zd h.1) (fun k=>k.1 h.2)).trans h.1,(j.old b (zd h.1)).trans h.2⟩
theorem Box.new{o:Obj}(h:Box own w b o)(hu:Upd (fun _=>False) w w'):Box own w' b o:=⟨hu.j4 h.1,h.2⟩
theorem Box.made(j:∀h,w.heap.size<=h->own h=0)(o:Obj):Box own (w.alloc o) w.heap.size o:=⟨zc w o rfl,j _ (qXp _)⟩
theorem CaAt.ky(h:CaAt own w c n p a){S:Nat->Prop}(hu:Upd S w w')(v:∀j,S j->own j=0/\j≠0/\j≠1):CaAt own w' c n p a:=by
 have q:∀(A j:Nat),A≠0->own j=A->¬S j:=fun A j D k s=>D (k.symm.trans (v j s).1);exact{h with
  str:=(hu.block c h.clt (q 1 c de h.oc)).trans h.str
  ssd:=h.ssd.keep hu (fun j k=>q _ j de k)
  back:=h.back.keep hu (fun j k=>q _ j de k)
  jr:=(Jn.kQ _ _ _ _ _ _ _).keep h.jr hu (fun j k=>q _ j de k)
  ix:=(Ix.kQ _ _ _ _).keep h.ix hu (fun j k=>q _ j de k)
  ss:=(Ss.kQ _ _).keep h.ss hu (fun j k=>q _ j de k)
  lg:=(Lg.kQ _ _ _).keep h.lg hu (fun j k=>q _ j de k)
  ck:=h.ck.keep hu (fun j k=>q _ j de k)
  sm:=(Mp.kQ _ _ _).keep h.sm hu (fun j k=>q _ j de k)
  far:=fun j k=>h.far j (qXr hu.size k)
  nib:=h.nib.keep hu (fun s=>(v _ s).2.1 rfl)
  tur:=h.tur.keep hu (fun s=>(v _ s).2.2 rfl)}
theorem ZO{o:Obj}{u:Value}{i:Nat}{h:Nat}(j:w.heap[b]?=some o)(k:o.isCells=false)(q:w.cell? ⟨h,i,none⟩=some u):b≠h:=by
 rintro rfl;cases o<;>simp[World.cell?,j,Obj.isCells]at q k
theorem xk(W:World)(l:Nat)(h:Obj):Upd (fun j=>j=l) W (W.putObj l h):=
 ⟨rfl,rfl,rfl,by simp[World.putObj],fun q _ k=>by
  simp only[World.putObj];rw[qxg (fun e=>k e.symm)]⟩
theorem CaAt.putObj(h:CaAt own w c n p a){o:Obj}(j:Box own w b o)(k:o.isCells=false)(q:Obj):CaAt own (w.putObj b q) c n p a:=
 h.ky (xk w b q) (fun s e=>by subst e;exact⟨j.2,ZO j.1 k (h.nib.c 0 de),ZO j.1 k h.tur.c0⟩)
theorem Did.putObj(h:Did own own' w w')(s:w.heap.size<=b)(j:Obj):Did own own' w (w'.putObj b j):=
 ⟨h.upd.new (xk w' b j) (fun i v e=>oM),h.old,h.new,fun k q=>h.far k (by simpa[World.putObj]using q)⟩
def zgK(n:CaN)(a:CaS)(E:List Ent):CaS:=
 {a with bF:=flushF a.bF a.bO,bO:=[],bP:=[],dF:=flushF (flushF a.dF a.dO) (ckO (1+(1-a.which)*n.pa) n.pa (pagesB (a.next-1) E)),dO:=[],dP:=[],which:=1-a.which,cov:=a.next-1,W:=[],st:=freeTo a.st (pos a.st 3)}
end
end
abbrev zfi:=Nat×((Nat->Prop)->World->Prop)
structure Mk(own0:Nat->Nat)(w0:World)(own:Nat->Nat)(w:World)(c:Nat)(cs:List Value)(bs bl:Nat)(us ul:Array Value)(L:List zfi):Prop where
 str:w.heap[c]?=some (.cells cs.toArray 170 (0,0))
 oc:own c=1
 cn:w0.heap.size<=c
 all:∀q∈L,Thing q.2/\q.1≠1/\q.2 (fun j=>own j=q.1) w
 far:∀j,w.heap.size<=j->own j=0
 nib:Nib w
 tur:Tur w
 on:own 0=0
 ot:own 1=0
 sb:w.heap[bs]?=some (.cells us 44 (0,0))
 lb:w.heap[bl]?=some (.cells ul 73 (0,0))
 bsc:bs≠c
 blc:bl≠c
 bel:Below w0.heap.size w0 w
 old:∀j,j<w0.heap.size->own j=own0 j
 new:∀j,w0.heap.size<=j->own j<16
section
variable{own0 own:Nat->Nat}{w0 w w':World}{c bs bl:Nat}{cs:List Value}{us ul:Array Value}{L:List zfi}
theorem Mk.add(h:Mk own0 w0 own w c cs bs bl us ul L)(t:Nat)(A:t≠1/\t<16/\∀s∈L,s.1≠t){R:(Nat->Prop)->World->Prop}(D:Thing R)(E:Below w.heap.size w w')(F:R (fun j=>w.heap.size<=j) w'):
  Mk own0 w0 (grow own t w.heap.size w'.heap.size) w' c cs bs bl us ul ((t,R)::L):=by
 have q:=qqb E;have G:=zd h.str;have M:∀j,own j=t->j<w.heap.size\/t=0:=fun j k=>by
  by_cases H:j<w.heap.size
  .exact .inl H
  .exact .inr (by rw[<-k,h.far j oM])
 exact{
  str:=q.j4 h.str
  oc:=(zw G).trans h.oc
  cn:=h.cn
  all:=fun s v=>by
   rcases qzn.1 v with rfl|v
   .exact ⟨D,A.1,D.out F (fun j k J=>XB J k)⟩
   .obtain ⟨a1,a2,a3⟩:=h.all s v;exact⟨a1,a2,a1.other a3 (A.2.2 s v) (q.mono fE)⟩
  far:=fun j k=>by
   have:=q.size;unfold grow;rw[if_neg oM];exact h.far j oM
  nib:=h.nib.keep q id
  tur:=h.tur.keep q id
  on:=(zw h.nib.lt).trans h.on
  ot:=(zw h.tur.lt).trans h.ot
  sb:=q.j4 h.sb
  lb:=q.j4 h.lb
  bsc:=h.bsc
  blc:=h.blc
  bel:=zj h.bel q (qXp _) (fun _ h=>h.elim)
  old:=fun j k=>(zw (qXs k h.bel.size)).trans (h.old j k)
  new:=fun j k=>by
   unfold grow;split
   .exact A.2.1
   .exact h.new j k}
theorem Mk.set(h:Mk own0 w0 own w c cs bs bl us ul L)(i:Nat)(v:Value):Mk own0 w0 own (w.setCell ⟨c,i,none⟩ v) c (cs.set i v) bs bl us ul L:=by
 have k:=zi w c i v;have q:∀(s j:Nat),s≠1->own j=s->¬j=c:=fun s j A hj e=>A (by rw[<-hj,e,h.oc]);exact{
  str:=by have:=zh h.str i v;simpa using this
  oc:=h.oc
  cn:=h.cn
  all:=fun D E=>by
   obtain⟨a1,a2,a3⟩:=h.all D E;exact⟨a1,a2,a1.keep a3 k (fun j hj=>q _ j a2 hj)⟩
  far:=fun j hj=>h.far j oC
  nib:=h.nib.keep k (q _ _ de h.on)
  tur:=h.tur.keep k (q _ _ de h.ot)
  on:=h.on
  ot:=h.ot
  sb:=(k.block _ (zd h.sb) h.bsc).trans h.sb
  lb:=(k.block _ (zd h.lb) h.blc).trans h.lb
  bsc:=h.bsc
  blc:=h.blc
  bel:=zj h.bel k (qXp _) (fun j e=>e▸h.cn)
  old:=h.old
  new:=h.new}
theorem Mk.cell(h:Mk own0 w0 own w c cs bs bl us ul L)(i:Nat):w.cell? ⟨c,i,none⟩=cs[i]?:=by rw[za h.str];simp
theorem Mk.part(h:Mk own0 w0 own w c cs bs bl us ul L){t:Nat}{R:(Nat->Prop)->World->Prop}(j:(t,R)∈L):R (fun k=>own k=t) w:=(h.all _ j).2.2
end
theorem Mk.start{w0 k:World}{bs bl:Nat}{us ul:Array Value}(cs:List Value)(v:Upd (fun _=>False) w0 k)
  (h2:Dv (fun j=>own0 j=2) w0 ssd dF dO dP) (O:Dv (fun j=>own0 j=3) w0 back bF bO bP) (far:∀j,w0.heap.size<=j->own0 j=0) (nib:Nib w0) (tur:Tur w0) (on:own0 0=0) (ot:own0 1=0)
  (sb:k.heap[bs]?=some (.cells us 44 (0,0))) (lb:k.heap[bl]?=some (.cells ul 73 (0,0))):
  ∃own,Mk own0 w0 own ((k.alloc (.map #[] 0)).alloc (.cells cs.toArray 170)) (k.heap.size+1) cs bs bl us ul
   [(9,fun A w=>Mp A w k.heap.size 0 (fun _=>none)),(3,fun A w=>Dv A w back bF bO bP),(2,fun A w=>Dv A w ssd dF dO dP)]:=by
 obtain⟨F,E⟩:=qqe ((k.alloc (.map #[] 0)).alloc (.cells cs.toArray 170));have Q:Upd (fun _=>False) k (k.alloc (.map #[] 0)):=(uur _ k).alloc _;have H:Upd (fun _=>False) (k.alloc (.map #[] 0)) F:=by rw[E];exact(uur _ _).alloc _
 have q:=Q.trans H;have S:F.heap.size=k.heap.size+2:=by rw[E];simp
 have J:=v.size;have T:=zd sb;have U:=zd lb;have V:=nib.lt;have W:=tur.lt;have M:∀(D:Nat),D≠0->∀(R:(Nat->Prop)->World->Prop),Thing R->R (fun j=>own0 j=D) w0->R (fun j=>(if j=k.heap.size then 9 else if j=k.heap.size+1 then 1 else own0 j)=D) F:=fun D X R G h=>by
  have h1:R (fun j=>own0 j=D/\j<w0.heap.size) w0:=G.out h (fun j s J=>⟨J,s⟩);exact G.out (G.new h1 (v.trans q)) (fun j s ⟨a,b⟩=>by rw[if_neg oM,if_neg oM];exact a)
 rw[<-E];refine⟨fun j=>if j=k.heap.size then 9 else if j=k.heap.size+1 then 1 else own0 j,?_⟩;exact{
  str:=by rw[E];exact zc _ _ oe
  oc:=by rw[if_neg oM,if_pos rfl]
  cn:=oM
  all:=fun Y N=>by
   simp only[qzn,qzz,qYu]at N;rcases N with rfl|rfl|rfl
   .exact ⟨Mp.kQ _ _ _,(by show(9:Nat)≠1;decide),(MapAt.made k).keep H id,oe⟩
   .exact ⟨Dv.kQ _ _ _ _,(by show(3:Nat)≠1;decide),M 3 de _ (Dv.kQ _ _ _ _) O⟩
   .exact ⟨Dv.kQ _ _ _ _,(by show(2:Nat)≠1;decide),M 2 de _ (Dv.kQ _ _ _ _) h2⟩
  far:=fun j s=>by rw[if_neg oM,if_neg oM];exact far j oM
  nib:=nib.keep (v.trans q) id
  tur:=tur.keep (v.trans q) id
  on:=by rw[if_neg oM,if_neg oM];exact on
  ot:=by rw[if_neg oM,if_neg oM];exact ot
  sb:=q.j4 sb
  lb:=q.j4 lb
  bsc:=oM
  blc:=oM
  bel:=Upd.below (v.trans q)
  old:=fun j s=>by rw[if_neg oM,if_neg oM]
  new:=fun j s=>by
   split
   .decide
   .split
    .decide
    .rw [far j s];decide}
theorem zaz(n s:Nat)(w:World)(h1:1<=n)(h2:n<=4096)(k:1<=s)(q:s<=1024):
  Calls prog 140 #[.int .i64 n,.int .i64 s] w fun e w'=>∃b,e=.returned (.tuple #[ptr b,.int .i64 0])/\Ix (fun j=>w.heap.size<=j) w' b 0 (List.replicate n (-1,false)) s/\Below w.heap.size w w':=
 (AL n s w h1 h2 k q).mono fun _ _ ⟨b,v,mb,A,D,E,F,G,H⟩=>⟨b,A,⟨v,mb,D,E,fun j h=>by rcases h with h|h;exact G j h;exact h▸F⟩,H⟩
theorem zaA(n:Nat)(w:World)(h1:1<=n)(h2:n<=1024):
  Calls prog 141 #[.int .i64 n] w fun e w'=>∃b,e=.returned (.tuple #[ptr b,.int .i64 0])/\Ss (fun h=>w.heap.size<=h) w' b (List.replicate n 0)/\Below w.heap.size w w':=
 (Ay n w h1 h2).mono fun _ _ ⟨j,k,q,_⟩=>⟨_,j,⟨_,k,by show _<=_;omega,fun h s=>by simp[Value.ownBlock]at s;show _<=_;omega⟩,q⟩
def ca0(n:CaN)(ssd back wh sm:Nat):List Value:=
 n.C++(layC n.sl n.jo n.pa n.lo++[ptr ssd,ptr back,.int .i64 (wh:Int),.pointer none,.pointer none,.pointer none,.pointer none,.pointer none,.map (some sm)])
theorem qN{h:Array Oper}{rest:List Oper}{op:Oper}{a:Act}{Q:Exit->Act->World->Prop}(j:op.guard=none)(p q r s t u:Operand)(k:op.op=.build 170 #[(0,p),(1,q),(2,r),(3,s),(4,t),(10,u)])
  (n:CaN) (ssd back wh sm:Nat) (v:a.eval p=.agg n.C.toArray) (A:a.eval q=.agg (layC n.sl n.jo n.pa n.lo).toArray) (D:a.eval r=ptr ssd) (E:a.eval s=ptr back) (F:a.eval t=.int .i64 (wh:Int)) (hu:a.eval u=.map (some sm)) (L:Array Value) (G:L=(ca0 n ssd back wh sm).toArray)
  (H:wpList prog h Q rest (a.put op.dst (.agg L)) w):wpList prog h Q (op::rest) a w:=by
 have J:(Instr.build 170 #[(0,.agg n.C.toArray),(1,.agg (layC n.sl n.jo n.pa n.lo).toArray),(2,ptr ssd),(3,ptr back),(4,.int .i64 (wh:Int)),(10,.map (some sm))]).run prog w=.ok (.agg L) w:=by
  rw[G];kernel_rfl
 refine qZa j fun N M=>?_;unfold Oper.wp;simp only[execOp,k,qzl,qzi,qzk,v,A,D,E,F,hu,qYg,J,qYf];exact M _ _ H
theorem CaN.C_one(n:CaN):∀h∈n.C,h.oneCell'=true:=by
 intro h j;simp only[CaN.C,qzn,qzz,qYu]at j;rcases j with rfl|rfl|rfl|rfl|rfl|rfl|rfl<;>rfl
theorem tG(sl k q s:Nat):∀h∈layC sl k q s,h.oneCell'=true:=by
 intro h j;simp only[qzn,qzz,qYu]at j;rcases j with rfl|rfl|rfl|rfl|rfl|rfl|rfl<;>rfl
def caS0(n:CaN)(wh seq:Nat)(dF:List Bk)(dO:List (Nat×Bk))(dP:List Int)(bF:List Bk)(bO:List (Nat×Bk))(bP:List Int):CaS:=
 ⟨wh,dF,dO,dP,bF,bO,bP,seq,seq+1,[],0,List.replicate n.bl (-1,false),List.replicate n.sl 0,List.replicate n.sl VL,0,[],fun _=>false,[],0,fun _=>none⟩
def YH(own0:Nat->Nat)(w:World)(ssd back:Nat)(n:CaN)(a:CaS)(e:Ending)(w':World):Prop:=
 ∃c p own',e=.returned (.tuple #[ptr c,.int .i64 0])/\p.ssd=ssd/\p.back=back/\CaAt own' w' c n p a/\Did own0 own' w w'
theorem Mk.ca{own:Nat->Nat}{w0:World}{c bs bl sm k q s v A:Nat}{us ul:Array Value}{n:CaN}{wh:Nat}
  (h:Mk own0 w0 own w c ((((((ca0 n ssd back wh sm).set 17 (ptr k)).set 18 (ptr q)).set 19 (ptr s)).set 20 (ptr v)).set 21 (ptr A)) bs bl us ul
   [(8,fun j w=>Ck j w A 0 n.sl n.sl [] (fun _=>false) []),(7,fun j w=>Lg j w v n.bl (List.replicate n.sl (fun _=>false))),(6,fun j w=>Ss j w s (List.replicate n.sl 0)),(5,fun j w=>Ix j w q 0 (List.replicate n.bl (-1,false)) n.sl),
    (4,fun j w=>Jn j w k ssd (1+2*n.pa) n.jo seq (seq+1) []),(9,fun j w=>Mp j w sm 0 (fun _=>none)),(3,fun j w=>Dv j w back bF bO bP),(2,fun j w=>Dv j w ssd dF dO dP)])
  (D:n.Ok) (fl:dF.length=n.size) (gl:bF.length=n.bl) (E:wh<=1):
  CaAt own w c n ⟨ssd,back,k,q,s,v,A,sm⟩ {caS0 n wh seq dF dO dP bF bO bP with G:=List.replicate n.sl (fun _=>false)}where
 str:=h.str
 oc:=h.oc
 ok:=D
 ssd:=h.part (t:=2) (R:=fun j w=>Dv j w ssd dF dO dP) oe
 back:=h.part (t:=3) (R:=fun j w=>Dv j w back bF bO bP) oe
 jr:=h.part (t:=4) (R:=fun j w=>Jn j w k ssd (1+2*n.pa) n.jo seq (seq+1) []) oe
 ix:=h.part (t:=5) (R:=fun j w=>Ix j w q 0 (List.replicate n.bl (-1,false)) n.sl) oe
 ss:=h.part (t:=6) (R:=fun j w=>Ss j w s (List.replicate n.sl 0)) oe
 lg:=h.part (t:=7) (R:=fun j w=>Lg j w v n.bl (List.replicate n.sl (fun _=>false))) oe
 ck:=h.part (t:=8) (R:=fun j w=>Ck j w A 0 n.sl n.sl [] (fun _=>false) []) oe
 sm:=h.part (t:=9) (R:=fun j w=>Mp j w sm 0 (fun _=>none)) oe
 far:=h.far
 nib:=h.nib
 tur:=h.tur
 on:=h.on
 ot:=h.ot
 fl:=fl
 gl:=gl
 pl:=by simp[caS0]
 sl:=by simp[caS0]
 Gl:=oe
 wh:=E
theorem zfj{n:CaN}(h2:Dv (fun E=>own0 E=2) w ssd dF dO dP)(V:Dv (fun E=>own0 E=3) w back bF bO bP)
  (far:∀E,w.heap.size<=E->own0 E=0) (nib:Nib w) (tur:Tur w) (on:own0 0=0) (ot:own0 1=0) (X:n.Ok) (fl:dF.length=n.size) (gl:bF.length=n.bl) (wh seq:Nat) (br:wh<=1) (bt:seq<1099511627776)
  (ao:Option Addr) (ln aW:Nat) (a':CaS) (aX:∀(own:Nat->Nat) (W:World) (c:Nat) (p:CaP),Did own0 own w W->CaAt own W c n p {caS0 n wh seq dF dO dP bF bO bP with G:=List.replicate n.sl (fun _=>false)}->Calls prog 144 #[ptr c,.slice ao ln aW] W (zt own W c n p a' (.int .i64 0))):
  Calls prog 89 #[.agg n.C.toArray,ptr ssd,ptr back,.int .i64 (wh:Int),.int .i64 (seq:Int),.slice ao ln aW] w (YH own0 w ssd back n a'):=by
 have bu:=qqh aX;clear aX;obtain⟨ak,J⟩:=qqe (n.C);obtain⟨ad,M⟩:=qqe (layC n.sl n.jo n.pa n.lo);obtain⟨w1,am⟩:=qqe (w.alloc (.cells ak.toArray 44));have Y:=qqg am;have a7:=qqu am;have aM:w1.rangeAt w.heap.size 0 ak:=zg Y;have aY:(prog.info? 44).map (·.size)=some ak.length:=by rw[J];exact xB
 have bv:Hid (Calls prog 26 #[.agg ak.toArray] w1 fun e w'=>e=.returned (.tuple #[.agg ad.toArray,.int .i64 0])/\Below w1.heap.size w1 w'):=by
  show Calls _ _ _ _ _;rw[J,M];obtain⟨aw,ax,ae,a8,aZ,aN,b0,b1,a1,a2,b2,b3,z⟩:=X;exact tc n.id n.bl n.sl n.jo n.pa n.lo n.ba aw ax ae a8 aZ aN b0 b1 a1 a2 b2 b3 z w1
 rw[<-J];have b4:=Y14 h2 V far nib tur on ot X fl gl J M Y a7;rw[am]at aM;have bx:=qqh am;have aO:=Y2 aM aY;clear h2 V far nib tur on ot X fl gl J M Y a7 aM aY am;go_enter func89,ntmps89
 go_wp2_with (first
  |(refine qYz rfl _ _ rfl _ _ rfl _ _ aO.o.1 underlying44 rfl aO.o.2 ?_)
  |fail)
 rw[<-bx.o];refine bv.out.mono ?_;rintro e aa ⟨rfl,b5⟩;obtain⟨h2,V,far,nib,tur,on,ot,X,fl,gl,J,M,Y,a7⟩:=b4.o;obtain⟨F,ay⟩:=qqe (aa.alloc (.cells ad.toArray 73));have aP:=qqb b5;have aQ:=qqu ay;have af:=qqg ay;have ag:=(aP.trans aQ).j4 Y;have ab:=(a7.trans aP).trans aQ;have aR:ad.length=7:=by rw[M];rfl
 have b6:∀bz∈ad,bz.oneCell'=true:=by rw[M];exact tG _ _ _ _
 have b7:Hid ((prog.info? 73).map (·.size)=some ad.length):=by show _=_;rw[aR];exact xU
 have an:=(Dv.kQ _ _ _ _).new h2 ab;have ap:=(Dv.kQ _ _ _ _).new V ab;have az:F.cell? ⟨aa.heap.size,6,none⟩=some (.int .i64 (n.size:Int)):=by
  rw[za af,M];simp[layC,CaN.size]
 have aA:F.cell? ⟨w.heap.size,1,none⟩=some (.int .i64 (n.bl:Int)):=by
  rw[za ag,J];simp[CaN.C]
 have b8:∀N,Calls prog 78 #[ptr ssd] (F.drewN N) fun e w'=>e=.returned (.int .i64 (n.size:Int))/\w'=F.drewN N:=fun N=>by
  have:=qn ((Dv.kQ _ _ _ _).new an ((uur (fun _=>False) F).drewN N));rw[fl]at this;exact this
 have b9:∀N,Calls prog 78 #[ptr back] (F.drewN N) fun e w'=>e=.returned (.int .i64 (n.bl:Int))/\w'=F.drewN N:=fun N=>by
  have:=qn ((Dv.kQ _ _ _ _).new ap ((uur (fun _=>False) F).drewN N));rw[gl]at this;exact this
 have bA:=Y5 ab af ag an ap;have aB:=Y4 aR b6 b8 b9;clear h2 V far nib tur on ot X fl gl J M Y a7 b5 aP aQ af ag ab aR b6 an ap b8 b9;have bB:=qqh ay;clear ay;have bC:=Y2 az aA;clear az aA;go_wp2_with (first
  |(refine zk rfl _ _ _ rfl _ _ _ rfl rfl (by rw[aB.o.1];rfl) b7.out aB.o.2.1 ?_)
  |fail)
 rw[<-bB.o];obtain⟨az,aA⟩:=bC.o
 go_quiet((go_at_call 78;(first|with_reducible exact Calls.quiet_of_same (aB.o.2.2.1 _)|with_reducible exact Calls.quiet_of_same (aB.o.2.2.2 _))))
 clear az aA;obtain⟨h2,V,far,nib,tur,on,ot,X,fl,gl,J,M,Y,a7⟩:=b4.o;obtain⟨ab,af,ag,an,ap⟩:=bA.o;have aC:Upd (fun _=>False) F (F.drewN nq):=(uur _ F).drewN nq;have bb:=ab.trans aC;have aS:=aC.j4 af;have aT:=aC.j4 ag;generalize F.drewN nq=Z at*;obtain⟨L,bc⟩:=qqe (ca0 n ssd back wh Z.heap.size);obtain⟨c0,bd⟩:=Mk.start L bb h2 V far nib tur on ot aT aS;have be:=zg aT;have bf:=zg aS;have bD:Upd (fun _=>False) Z (Z.alloc (.map #[] 0)):=(uur _ Z).alloc _;have a6:=Y2 bc bd;have aU:=Y2 be bf;have bg:=qqh X;have bh:=qqh fl;have bE:=qqh gl;have H:=Y2 J M;have bG:= @run_makeMap prog;clear h2 V far nib tur on ot X fl gl J M Y a7 ab af ag an ap aC bb aS aT be bf bD bd bc;rcases(show wh=0\/wh=1 by omega)with rfl|rfl
 all_goals
  go_upto_region 11 with(first
   |(refine qYz rfl _ _ rfl _ _ rfl _ _ aU.o.1 underlying44 rfl aO.o.2 ?_)
   |(refine qYz rfl _ _ rfl _ _ rfl _ _ aU.o.2 underlying73 rfl b7.out ?_)
   |(refine qN rfl _ _ _ _ _ _ rfl n ssd back _ Z.heap.size (by show Value.agg ak.toArray=_;rw[H.o.1]) (by show Value.agg ad.toArray=_;rw[H.o.2]) oE oE oE oE L.toArray (by rw[a6.o.1]) ?_)
   |fail)
  have bH:=qqh (zd a6.o.2.str);obtain⟨c,bi⟩:=qqe (Z.heap.size+1);rw[<-bi]at a6⊢;have aq:=a6.o.2;have bI:=a6.o.1;generalize (Z.alloc (.map #[] 0)).alloc (.cells L.toArray 170)=ar at*;generalize bJ:Z.heap.size=sm at*;clear bi a6 bH bG bJ aU;subst bI;obtain⟨aw,ax,ae,a8,aZ,aN,b0,b1,a1,a2,b2,b3,z⟩:=bg.o;have j:=za aq.sb;have q:=za aq.lb;rw[H.o.1]at j;rw[H.o.2]at q;have q1:ar.cell? ⟨w.heap.size,1,none⟩=some (.int .i64 (n.bl:Int)):=j 1;have q2:ar.cell? ⟨w.heap.size,2,none⟩=some (.int .i64 (n.sl:Int)):=j 2;have O:ar.cell? ⟨w.heap.size,3,none⟩=some (.int .i64 (n.jo:Int)):=j 3;have Q:ar.cell? ⟨aa.heap.size,1,none⟩=some (.int .i64 (1+2*(n.pa:Int))):=q 1;have s:=qqh (Sy (S:=fun E=>ar.heap.size<=E) (aq.part (t:=2) (R:=fun bK w=>Dv bK w ssd dF dO dP) oe) (fun _ h=>h) (1+2*n.pa) n.jo seq oM aN (by rw[bh.out];unfold CaN.size;omega) bt);have T:=qqh aq;clear j q aq;go_wp2_with fail
  try rw[show(1+2*(n.pa:Int))=((1+2*n.pa:Nat):Int) by simp]
  refine s.o.mono ?_;rintro e U ⟨aD,rfl,v,-,A⟩;have k:=T.o.add 4 oe (Jn.kQ aD ssd (1+2*n.pa) n.jo seq (seq+1) []) A v;have bL:=k.cell 17;have bM:=zf k.str 17;have D:=qqh k;clear v A k q1 q2 O Q;go_upto_region 14 with fail
  have aE:=D.o.set 17 (ptr aD);generalize U.setCell ⟨c,17,none⟩ (ptr aD)=au at*;clear s D bL bM;have j:=za aE.sb;have q:=za aE.lb;rw[H.o.1]at j;rw[H.o.2]at q;have q1:au.cell? ⟨w.heap.size,1,none⟩=some (.int .i64 (n.bl:Int)):=j 1;have q2:au.cell? ⟨w.heap.size,2,none⟩=some (.int .i64 (n.sl:Int)):=j 2;have O:au.cell? ⟨w.heap.size,3,none⟩=some (.int .i64 (n.jo:Int)):=j 3;have Q:au.cell? ⟨aa.heap.size,1,none⟩=some (.int .i64 (1+2*(n.pa:Int))):=q 1;have s:=qqh (zaz n.bl n.sl au aw ax ae a8);have T:=qqh aE;clear j q aE;go_wp2_with fail
  try rw[show(1+2*(n.pa:Int))=((1+2*n.pa:Nat):Int) by simp]
  refine s.o.mono ?_;rintro e U ⟨aF,rfl,v,A⟩;have k:=T.o.add 5 oe (Ix.kQ aF 0 (List.replicate n.bl (-1,false)) n.sl) A v;have bN:=k.cell 18;have bQ:=zf k.str 18;have D:=qqh k;clear v A k q1 q2 O Q;go_upto_region 17 with fail
  have aG:=D.o.set 18 (ptr aF);generalize U.setCell ⟨c,18,none⟩ (ptr aF)=av at*;clear s D bN bQ;have j:=za aG.sb;have q:=za aG.lb;rw[H.o.1]at j;rw[H.o.2]at q;have q1:av.cell? ⟨w.heap.size,1,none⟩=some (.int .i64 (n.bl:Int)):=j 1;have q2:av.cell? ⟨w.heap.size,2,none⟩=some (.int .i64 (n.sl:Int)):=j 2;have O:av.cell? ⟨w.heap.size,3,none⟩=some (.int .i64 (n.jo:Int)):=j 3;have Q:av.cell? ⟨aa.heap.size,1,none⟩=some (.int .i64 (1+2*(n.pa:Int))):=q 1;have s:=qqh (zaA n.sl av ae a8);have T:=qqh aG;clear j q aG;go_wp2_with fail
  try rw[show(1+2*(n.pa:Int))=((1+2*n.pa:Nat):Int) by simp]
  refine s.o.mono ?_;rintro e U ⟨aH,rfl,v,A⟩;have k:=T.o.add 6 oe (Ss.kQ aH (List.replicate n.sl 0)) A v;have bR:=k.cell 19;have bS:=zf k.str 19;have D:=qqh k;clear v A k q1 q2 O Q;go_upto_region 20 with fail
  have aI:=D.o.set 19 (ptr aH);generalize U.setCell ⟨c,19,none⟩ (ptr aH)=ah at*;clear s D bR bS;have j:=za aI.sb;have q:=za aI.lb;rw[H.o.1]at j;rw[H.o.2]at q;have q1:ah.cell? ⟨w.heap.size,1,none⟩=some (.int .i64 (n.bl:Int)):=j 1;have q2:ah.cell? ⟨w.heap.size,2,none⟩=some (.int .i64 (n.sl:Int)):=j 2;have O:ah.cell? ⟨w.heap.size,3,none⟩=some (.int .i64 (n.jo:Int)):=j 3;have Q:ah.cell? ⟨aa.heap.size,1,none⟩=some (.int .i64 (1+2*(n.pa:Int))):=q 1;have s:=qqh (zac (S:=fun E=>ah.heap.size<=E) n.sl n.bl ah (fun _ h=>h) ae a8 aw ax);have T:=qqh aI;clear j q aI;go_wp2_with fail
  try rw[show(1+2*(n.pa:Int))=((1+2*n.pa:Nat):Int) by simp]
  refine s.o.mono ?_;rintro e U ⟨aJ,rfl,v,A,-⟩;have k:=T.o.add 7 oe (Lg.kQ aJ n.bl (List.replicate n.sl (fun _=>false))) A v;have bT:=k.cell 20;have bU:=zf k.str 20;have D:=qqh k;clear v A k q1 q2 O Q;go_upto_region 23 with fail
  have aK:=D.o.set 20 (ptr aJ);generalize U.setCell ⟨c,20,none⟩ (ptr aJ)=ai at*;clear s D bT bU;have j:=za aK.sb;have q:=za aK.lb;rw[H.o.1]at j;rw[H.o.2]at q;have q1:ai.cell? ⟨w.heap.size,1,none⟩=some (.int .i64 (n.bl:Int)):=j 1;have q2:ai.cell? ⟨w.heap.size,2,none⟩=some (.int .i64 (n.sl:Int)):=j 2;have O:ai.cell? ⟨w.heap.size,3,none⟩=some (.int .i64 (n.jo:Int)):=j 3;have Q:ai.cell? ⟨aa.heap.size,1,none⟩=some (.int .i64 (1+2*(n.pa:Int))):=q 1;have s:=qqh (AJ (S:=fun E=>ai.heap.size<=E) n.sl n.sl ai ae a8 a8 (fun _ h=>h));have T:=qqh aK;clear j q aK;go_wp2_with fail
  try rw[show(1+2*(n.pa:Int))=((1+2*n.pa:Nat):Int) by simp]
  refine s.o.mono ?_;rintro e U ⟨aL,rfl,v,-,A⟩;have k:=T.o.add 8 oe (Ck.kQ aL 0 n.sl n.sl [] (fun _=>false) []) A v;have bV:=k.cell 21;have bW:=zf k.str 21;have D:=qqh k;clear v A k q1 q2 O Q;go_upto_region 26 with fail
  have aj:=D.o.set 21 (ptr aL);generalize U.setCell ⟨c,21,none⟩ (ptr aL)=bX at*;clear s D bV bW;have bj:=aj.ca bg.o bh.out bE.out br;have aV:Did own0 _ w bX:=⟨(uuo aj.bel),aj.old,aj.new,aj.far⟩
  have a6:=qqh (bu.out _ _ _ _ aV bj);have bY:=qqh aV;clear bj aV aj;go_wp2_with fail
  refine a6.o.mono ?_;rintro e c3 ⟨rfl,bZ,bn,bp⟩;have bq:=Y2 bn (bY.o.trans bp);clear bn bp;go_wp2
  go_ret2
  exact⟨c,⟨ssd,back,aD,aF,aH,aJ,aL,sm⟩,bZ,rfl,rfl,rfl,bq.o.1,bq.o.2⟩
def YI(w:World)(ps:List (Int×Bool))(f n:Nat)(e:Ending)(w':World):Prop:=
 ∃Bs Bp g off cap,e=.returned (.func (.func 229) #[] #[.pointer (some ⟨Bs,0,none⟩),.pointer (some ⟨Bp,0,none⟩)])/\
  (w.heap.size<=Bp/\w.heap.size<=g/\w.heap.size<=Bs)/\Bs<w'.heap.size/\(∃cs z,w'.heap[Bp]?=some (.cells cs 52 z))/\(∃cs z,w'.heap[g]?=some (.cells cs 256 z))/\w'.cell? ⟨Bs,0,none⟩=some (.slice (some ⟨g,off,none⟩) (spanL ps f n).length cap)/\w'.cell? ⟨Bp,0,none⟩=some (.int .i64 f)/\
  (∀j (h:j<(spanL ps f n).length),w'.cell? ⟨g,off+j*2,none⟩=some (.int .i64 (spanL ps f n)[j].1)/\w'.cell? ⟨g,off+j*2+1,none⟩=some (.bool (spanL ps f n)[j].2))/\Below w.heap.size w w'
theorem zaB{mb N:Nat}{v:Value}{ps:List (Int×Bool)}{aJ:Nat}(h:IndexAt w b v mb N ps aJ)(f n:Nat)(aX:f<ps.length):
  Calls prog 164 #[.pointer (some ⟨b,0,none⟩),Ta f n] w (YI w ps f n):=by
 have ah:Upd (fun _=>False) w (w.alloc (.cells #[.int .i64 f,.int .i64 n] 52)):=(uur _ _).alloc _;have U:=(ah.cellAt (o:=0) h.blt id).trans (za h.str 0);simp at U;have aY:=h.le;have V:=qqh h;obtain⟨aK,c,rfl⟩:=h.sl.rd.j6;have aZ:¬(f:Int)<0:=oM;have b0:¬(n:Int)<0:=oM;have b1:¬(ps.length:Int)<=f:=oM;clear h;go_enter func164,ntmps164
 go_wp2
 go_quiet(fail)
 go_wp2
 clear U;generalize ae:(w.alloc (.cells #[.int .i64 f,.int .i64 n] 52)).drewN nq=j;have Z:Upd (fun _=>False) w j:=by rw[<-ae];exact ah.drewN nq
 have a6:j.heap[w.heap.size]?=some (.cells #[.int .i64 f,.int .i64 n] 52):=by rw[<-ae];exact zc w _ rfl
 have aL:j.heap.size=w.heap.size+1:=by rw[<-ae];simp[World.drewN]
 clear ae ah;have t0:=za a6 0;have ai:=za a6 1;simp at t0 ai;have U:=(Z.cellAt (o:=0) V.o.blt id).trans (za V.o.str 0);simp at U;obtain⟨gb,G,rfl,b2⟩:∃gb G,aK=some (⟨gb,G,none⟩:Addr)/\ps.length<=c:=by
  obtain⟨b3,⟨h1,h2⟩|⟨D,H,aM,aN,h1,hg,aO,_⟩⟩:=V.o.sl
  .omega
  .cases h1;exact⟨D,H,rfl,aO⟩
 have J:Upd (fun _=>False) j (j.alloc (.cells #[.slice none 0 0] 320)).drew:=((uur _ _).alloc _).drew;have ax:Hid (Rd (j.alloc (.cells #[.slice none 0 0] 320)).drew 2 (.slice (some ⟨gb,G+f*2,none⟩) (ps.length-f) (c-f)) (ps.drop f).length (plC (ps.drop f))):=
  (qW (V.o.sl.keep Z (fun _ _ h=>h)) f oM).keep J (fun _ _ h=>h)
 have ay:Hid (Rd j.drew 2 (.slice (some ⟨gb,G+f*2,none⟩) (ps.length-f) (c-f)) (ps.drop f).length (plC (ps.drop f))):=
  (qW (V.o.sl.keep Z (fun _ _ h=>h)) f oM).keep ((uur (fun _=>False) j).drew) (fun _ _ h=>h)
 have a7:Hid (j.drew.cell? ⟨b,0,none⟩=some (.slice (some ⟨gb,G,none⟩) ps.length c)/\j.drew.cell? ⟨w.heap.size,0,none⟩=some (.int .i64 f)/\j.drew.cell? ⟨w.heap.size,1,none⟩=some (.int .i64 n)/\j.drew.heap[w.heap.size]?=some (.cells #[.int .i64 f,.int .i64 n] 52)):=⟨U,t0,ai,a6⟩
 have b4:¬c=f:=oM;have b5:f<=ps.length:=oM;have b6:=V.o.blt;have W:Hid ((j.alloc (.cells #[.slice none 0 0] 320)).drew.cell? ⟨b,0,none⟩=some (.slice (some ⟨gb,G,none⟩) ps.length c)/\(j.alloc (.cells #[.slice none 0 0] 320)).drew.cell? ⟨w.heap.size,0,none⟩=some (.int .i64 f)/\
   (j.alloc (.cells #[.slice none 0 0] 320)).drew.cell? ⟨w.heap.size,1,none⟩=some (.int .i64 n)/\(j.alloc (.cells #[.slice none 0 0] 320)).drew.heap[w.heap.size+1]?=some (.cells #[.slice none 0 0] 320)/\(j.alloc (.cells #[.slice none 0 0] 320)).drew.heap[w.heap.size]?=some (.cells #[.int .i64 f,.int .i64 n] 52)):=
  ⟨(J.cellAt oM id).trans U,(J.cellAt oM id).trans t0,(J.cellAt oM id).trans ai,zc j _ aL.symm,(J.block _ (zd a6) id).trans a6⟩
 have aP:¬w.heap.size+1=b:=oM
 go_region_held3 (fun aj=>aj.cell? ⟨b,0,none⟩=some (.slice (some ⟨gb,G,none⟩) ps.length c)/\aj.cell? ⟨w.heap.size,0,none⟩=some (.int .i64 f)/\aj.cell? ⟨w.heap.size,1,none⟩=some (.int .i64 n)) (go_keep)
  (first
  |((go_at_call 228;refine(wR ay.o og og).mono ?_;rintro e A ⟨aQ,rfl,M,X,hb3⟩;obtain⟨E,q,rfl⟩:=M.rd.j6;have ak:=(hb3.cell (p:=⟨b,0,none⟩) og).trans a7.o.1;have a8:=(hb3.cell (p:=⟨w.heap.size,0,none⟩) og).trans a7.o.2.1;have aa:=(hb3.cell (p:=⟨w.heap.size,1,none⟩) og).trans a7.o.2.2.1;have O:=(hb3.block w.heap.size og).trans a7.o.2.2.2))
  |((go_at_call 228;refine(wR ax.o og og).mono ?_;rintro e A ⟨aQ,rfl,M,X,hb3⟩;obtain⟨E,q,rfl⟩:=M.rd.j6;have ak:=(hb3.cell (p:=⟨b,0,none⟩) og).trans W.o.1;have a8:=(hb3.cell (p:=⟨w.heap.size,0,none⟩) og).trans W.o.2.1;have aa:=(hb3.cell (p:=⟨w.heap.size,1,none⟩) og).trans W.o.2.2.1;have kb:=(hb3.block (w.heap.size+1) og).trans W.o.2.2.2.1;have O:=(hb3.block w.heap.size og).trans W.o.2.2.2.2;have az:=za kb 0;have aR:=zf kb 0;simp at az)))
 case' refine_2.refine_3.refine_3.refine_3.refine_3.refine_3.refine_3.refine_3.refine_1.refine_2.refine_1.refine_2.refine_1.refine_2=>
  have s:Upd (fun _=>False) A (A.alloc (.cells #[.slice E (ps.length-f) q] 320)):=(uur _ _).alloc _;have F:=zc A (.cells #[.slice E (ps.length-f) q] 320) rfl;have Y:=zj (zj (qxl _ w) Z (qXp _) (fun _ h=>h.elim)) (uuo (S:=fun _=>False) (UZ hb3)) (qXp _) (fun _ h=>h.elim);have aA:From w.heap.size (.slice E (ps.length-f) q):=fun g hg=>by have:=X g jf;simp at this;omega
  have af:w.heap.size<=A.heap.size:=Y.size;have ag:=M.keep s (fun _ _ h=>h);have am:=(s.block _ (zd O) id).trans O;have an:=zj Y s (qXp _) (fun _ h=>h.elim);have t5:=(s.cellAt (b:=w.heap.size) (o:=0) ox id).trans a8;have aS:=(s.cellAt (b:=w.heap.size) (o:=1) ox id).trans aa;have ao:A.heap.size≠w.heap.size:=by have:=hb3.size;simp at this;omega
  clear s M X hb3 O ak a8 aa Y;generalize (A.alloc (.cells #[.slice E (ps.length-f) q] 320))=ab at*;generalize A.heap.size=Q at*
 rotate_left
 have s:Upd (fun k=>k=w.heap.size+1) A (A.setCell ⟨w.heap.size+1,0,none⟩ (.slice E (ps.length-f) q)):=zi _ _ _ _;have F:=zh kb 0 (.slice E (ps.length-f) q);simp at F;have aB:=zj (zj (qxl _ w) Z (qXp _) (fun _ h=>h.elim)) J (qXp _) (fun _ h=>h.elim);have Y:=zj aB (uuo (S:=fun _=>False) hb3) (qXp _) (fun _ h=>h.elim);have aA:From w.heap.size (.slice E (ps.length-f) q):=fun g hg=>by have:=X g jf;simp at this;omega
 have af:w.heap.size<=w.heap.size+1:=oM;have am:=(s.block _ (zd O) oM).trans O;have ag:=M.keep s (fun g hg e=>by have:=X g hg;simp at this;omega);have an:=zj Y s (qXp _) (fun k e=>oM);have t5:=(s.cellAt (b:=w.heap.size) (o:=0) ox oM).trans a8;have aS:=(s.cellAt (b:=w.heap.size) (o:=1) ox oM).trans aa;have ao:w.heap.size+1≠w.heap.size:=oM;clear s M X hb3 O ak a8 aa az aR kb aB Y aP J W a7 ax ay;generalize (A.setCell ⟨w.heap.size+1,0,none⟩ (.slice E (ps.length-f) q))=ab at*;generalize w.heap.size+1=Q at*
 all_goals
  obtain⟨D,H,aM,aN,aT,T,aU,ap⟩:=ag.at og
 all_goals
  cases aT;have aq:Hid (∀k (h:k<(ps.drop f).length),ab.cell? ⟨D,H+k*2,none⟩=some (.int .i64 (ps.drop f)[k].1)/\ab.cell? ⟨D,H+k*2+1,none⟩=some (.bool (ps.drop f)[k].2)):=
   fun k h=>⟨(za T _).trans (ap _ _ (xx h).1),(za T _).trans (ap (k*2+1) _ (xx h).2)⟩
  have ar:=zd T;have aC:=aA D rfl;have aD:=zd F;have b7:ps.length-f<=q:=by
   obtain⟨_,⟨h1,_⟩|⟨_,_,_,_,h1,_,h2,_⟩⟩:=ag
   .cases h1
   .cases h1;simpa using h2
  have au:D≠Q:=fun e=>by
   rw[e]at T;rw[T]at F;simp at F
  have aE:=za F 0;have b8:=zf F 0;simp at aE;have aV:=qqh F;have aF:=qqh T;have av:=qqh am;clear am aU ap T ag F;by_cases hlt:(n:Int)<((ps.length-f:Nat):Int)
  .have b9:n<=ps.length-f:=oM;have ba:n<=q:=oM;have aw:Hid (spanL ps f n=(ps.drop f).take n):=rfl;have aG:(spanL ps f n).length=n:=by simp[spanL];omega
   go_wp2
   go_ret
   have ad:Upd (fun k=>k=Q) ab (ab.setCell ⟨Q,0,none⟩ (.slice (some ⟨D,H,none⟩) n q)):=zi _ _ _ _;have aH:=(zE t5).2;refine⟨Q,w.heap.size,D,H,q,rfl,⟨qXp _,aC,af⟩,by rw[World.size_setCell];exact aD,⟨_,_,(ad.block _ (zd av.o) (fun e=>ao e.symm)).trans av.o⟩,⟨_,_,(ad.block D ar (fun e=>au e)).trans aF.o⟩,?_,(ad.cellAt aH (fun e=>ao e.symm)).trans t5,?_,an.setCell (p:=⟨Q,0,none⟩) af _⟩
   .rw [aG,za (zh aV.o 0 _)];simp
   .intro k aW;have aI:k<(ps.drop f).length:=by rw[aG]at aW;simp;omega
    have e:(spanL ps f n)[k]=(ps.drop f)[k]:=by simp[spanL]
    rw[e];exact⟨(ad.cellAt ar (fun e=>au e)).trans (aq.out k aI).1,(ad.cellAt ar (fun e=>au e)).trans (aq.out k aI).2⟩
  .go_wp2
   go_ret
   have aw:spanL ps f n=ps.drop f:=by unfold spanL;rw[qXk];simp;omega
   have aH:=(zE t5).2;exact⟨Q,w.heap.size,D,H,q,rfl,⟨qXp _,aC,af⟩,aD,⟨_,_,av.o⟩,⟨_,_,aF.o⟩,by rw[aw,qzb];exact aE,t5,by rw[aw];exact aq.out,an⟩
def noE(e:Empty):Value:=nomatch e
def uC(w:World)(lb mb bl:Nat):Prop:=w.heap[lb]?=some (.cells #[.int .i64 (bl:Int),.map (some mb)] 173 (0,0))/\MapG noE w mb 0 (fun _=>none)
abbrev sI(f n:Int):Value:=.agg #[.int .i64 f,.int .i64 n]
theorem yz:(prog.info? 52).map (·.size)=some 2:=kR
section
variable{w w':World}{lb mb bl:Nat}
theorem uC.keep{S:Nat->Prop}(h:uC w lb mb bl)(hu:Upd S w w')(h1:¬S lb)(h2:¬S mb):uC w' lb mb bl:=⟨(hu.block lb (zd h.1) h1).trans h.1,h.2.keep hu h2⟩
theorem uC.new(h:uC w lb mb bl)(hu:Upd (fun _=>False) w w'):uC w' lb mb bl:=h.keep hu id id
theorem zdd(bl:Nat)(h1:1<=bl)(h2:bl<=4096)(w:World):Calls prog 58 #[.int .i64 (bl:Int)] w
  fun e w'=>∃lb mb,e=.returned (.tuple #[.pointer (some ⟨lb,0,none⟩),.int .i64 0])/\uC w' lb mb bl/\w.heap.size<=lb/\w.heap.size<=mb/\Below w.heap.size w w':=by
 have j:= @run_makeMap prog;have q1:¬(bl:Int)<1:=oM;have q2:¬(bl:Int)>4096:=oM;go_enter func58,ntmps58
 go_wp2
 go_ret2
 refine⟨w.heap.size+1,rfl,w.heap.size,⟨zc _ _ oe,(MapG.made w).keep ((uur (fun _=>False) _).alloc _) id⟩,oM,oM,((qxl _ w).alloc (qXp _) _).alloc oe _⟩
def inS(bl:Nat)(f n:Int):Prop:=0<=f/\1<=n/\n<=bl/\f<=bl-n
theorem zaC(h:uC w lb mb bl)(f n:Int):Calls prog 170 #[.pointer (some ⟨lb,0,none⟩),sI f n] w fun e w'=>e=.returned (.int .i64 0)/\Below w.heap.size w w':=by
 obtain⟨w1,k⟩:=qqe (w.alloc (.cells #[.int .i64 f,.int .i64 n] 52));have j:=qqu k;have c1:w1.cell? ⟨lb,1,none⟩=some (.map (some mb)):=by rw[za (h.new j).1];rfl
 have A:=qqh (h.new j).2;have s:=Y2 k j;clear k j;go_enter func170,ntmps170
 go_upto_region 1 with fail
 rw[<-s.o.1];go_wp2_with (first
  |(at_range;refine xQ rfl _ 171 rfl underlying171 rfl A.o ?_;intro D q v E;refine Stop.i ?_)
  |fail)
 obtain⟨J,M,q⟩:=q;have F:=qqh (s.o.2.trans v);clear v E c1;unfold Stop;go_wp2_with fail
 go_loopg[] 0 (fun gk wr=>wr=D)
 case atStart=>rfl
 case round=>
  have G:=hrel;subst G;go_wp2_with (first
   |(at_next;refine wj rfl _ rfl rfl q (fun N=>Stop.i ?_) (fun x O Q H S T U V W=>absurd H oe))
   |fail)
  unfold Stop;go_wp2
  go_ret
  exact⟨rfl,F.o.below⟩
theorem zde(h:uC w lb mb bl)(Q:bl<=4096){f n:Int}(H:inS bl f n):Calls prog 169 #[.pointer (some ⟨lb,0,none⟩),sI f n] w fun e w'=>e=.returned (.int .i64 0)/\Below w.heap.size w w':=by
 obtain⟨m,q⟩:=qqe (w.heap.size);obtain⟨w1,k⟩:=qqe (w.alloc (.cells #[.int .i64 f,.int .i64 n] 52));have s:=qqu k;have v:w1.heap[m]?=some (.cells #[.int .i64 f,.int .i64 n] 52 (0,0)):=by rw[k,q];exact zc w _ rfl
 have T:w1.cell? ⟨m,0,none⟩=some (.int .i64 f):=za v 0;have c1:w1.cell? ⟨m,1,none⟩=some (.int .i64 n):=za v 1;have c2:w1.cell? ⟨lb,0,none⟩=some (.int .i64 (bl:Int)):=za (h.new s).1 0;obtain⟨J,M,N,O⟩:=H;have q1:¬f<0:=oM;have q2:¬n<1:=oM;have U:¬n>(bl:Int):=oM;have V:IntKind.i64.wrap ((bl:Int)-n)=(bl:Int)-n:=qxu _ oM;have W:¬f>(bl:Int)-n:=oM;have A:=Y3 k s q;clear h k s q v J M N O;go_enter func169,ntmps169
 go_upto_region 1 with fail
 rw[<-A.o.1,<-A.o.2.2];refine qZc (S:=fun D=>D.cell? ⟨m,0,none⟩=some (.int .i64 f)/\D.cell? ⟨m,1,none⟩=some (.int .i64 n)/\D.cell? ⟨lb,0,none⟩=some (.int .i64 (bl:Int))) kR (⟨by rw[qYi];assumption,by rw[qYi];assumption,by rw[qYi];assumption⟩) (fun E=>?_);refine Wl.i [0,1,2,3,4,5,6] ?_;iterate 7 refine Wl.t E ?_
 refine Wl.o ?_;refine Wl.r 7 (fun K j=>?_);go_simp
 refine j.o _ _ (E) (fun F=>?_);clear j K;refine Wl.i [8,9,10,11,12,13,14,15] ?_;iterate 8 refine Wl.t F ?_
 refine Wl.o ?_;refine Wl.r 16 (fun K j=>?_);go_simp
 refine j.o _ _ (F) (fun G=>?_);clear j K;refine Wl.i [17,18,19,20,21,22,23,24,25,26,27] ?_;iterate 11 refine Wl.t G ?_
 refine Wl.o ?_;refine Wl.r 28 (fun K j=>?_);go_simp
 refine j.o _ _ (G) (fun X=>?_);clear j K;refine Wl.d ?_;go_wp2
 go_ret
 exact⟨rfl,A.o.2.1.drew.below⟩
theorem zaD(k:uC w lb mb bl)(M:bl<=4096){f n:Int}(N:inS bl f n):Calls prog 175 #[.pointer (some ⟨lb,0,none⟩),sI f n] w fun e w'=>e=.returned (.int .i64 0)/\Below w.heap.size w w':=by
 obtain⟨m,q⟩:=qqe (w.heap.size);obtain⟨w1,j⟩:=qqe (w.alloc (.cells #[.int .i64 f,.int .i64 n] 52));have s:=qqu j;have v:w1.heap[m]?=some (.cells #[.int .i64 f,.int .i64 n] 52 (0,0)):=by rw[j,q];exact zc w _ rfl
 have D:=zg v;have O:=qqh (zde (k.new s) M N);have h:=Y5 j s q k v;have E:=yz;clear k j s q v;go_enter func175,ntmps175
 go_upto_region 1 with fail
 rw[<-h.o.1,<-h.o.2.2.1];go_wp2_with (first
  |(refine qYz rfl _ _ rfl _ _ rfl _ _ D underlying52 rfl E ?_)
  |fail)
 refine O.o.mono ?_;rintro e S ⟨rfl,F⟩;have A:=qqb F;have G:=zg (A.j4 h.o.2.2.2.2);have H:=qqh (h.o.2.1.trans A);have P:=qqh (zaC (h.o.2.2.2.1.new H.o) f n);clear F A D;go_wp2_with (first
  |(refine qYz rfl _ _ rfl _ _ rfl _ _ G underlying52 rfl E ?_)
  |fail)
 refine P.o.mono ?_;rintro e T ⟨rfl,J⟩;have Q:=qqh (H.o.trans (uuo J));clear J G;go_wp2
 go_ret
 exact⟨rfl,Q.o.below⟩
theorem Rh(h:uC w lb mb bl)(k:Int):Calls prog 172 #[.pointer (some ⟨lb,0,none⟩),.int .i64 k] w fun e w'=>e=.returned (.tuple #[.int .i64 0,.bool false])/\Below w.heap.size w w':=by
 have c1:w.cell? ⟨lb,1,none⟩=some (.map (some mb)):=by rw[za h.1];rfl
 have s:=qqh h.2;go_enter func172,ntmps172
 go_wp2
 go_step3
 go_wp2
 go_step3
 go_wp2_with (first
  |(at_range;refine xQ rfl _ 171 rfl underlying171 rfl s.o ?_;intro v j q A;refine Stop.i ?_)
  |fail)
 obtain⟨J,M,j⟩:=j;have D:=qqh q;clear q A c1;unfold Stop;go_wp2_with fail
 go_loopg[6,7] 0 (fun gk E F wr=>E=.int .i64 0/\F=.bool false/\wr=v)
 case atStart=>exact⟨rfl,rfl,rfl⟩
 case round=>
  obtain⟨rfl,rfl,G⟩:=hrel;subst G;go_wp2_with (first
   |(at_next;refine wj rfl _ rfl rfl j (fun N=>Stop.i ?_) (fun x O Q H S T U V W=>absurd H oe))
   |fail)
  unfold Stop;go_wp2
  rw[qxr];go_ret2
  exact⟨rfl,D.o.below⟩
end
def qD(ns:List Nat)(i:Nat):Ent:=⟨ns.getD (4+4*i) 0,ns.getD (4+4*i+1) 0,ns.getD (4+4*i+2) 0==1,ns.getD (4+4*i+3) 0⟩
theorem zT(h:List Nat)(i:Nat):(natsI h).getD i 0=(h.getD i 0:Nat):=by
 simp only[natsI,qyg,qyn];cases h[i]?<;>rfl
theorem xJ(xs:List Int)(i j:Nat)(h:j<4):(rowI xs i).getD j 0=xs.getD (4+4*i+j) 0:=by
 simp only[rowI,qyg,qyq,if_pos h,qyj]
theorem JG(j:List Nat)(i:Nat):entX (natsI j) i=entC (qD j i):=by
 unfold entX entC qD;rw[xJ _ _ _ oM,xJ _ _ _ oM,xJ _ _ _ oM,xJ _ _ _ oM,zT,zT,zT,zT];have:((j.getD (4+4*i+2) 0:Nat):Int)==1↔j.getD (4+4*i+2) 0==1:=by simp;omega
 rw[Bool.eq_iff_iff.2 this];rfl
def pgSeq(b:Bk):Nat:=(numsP b).getD 0 0
def pgNo(b:Bk):Nat:=(numsP b).getD 1 0
def pgOf(b:Bk):Nat:=(numsP b).getD 2 0
def pgMany(b:Bk):Nat:=(numsP b).getD 3 0
def pgEnts(b:Bk):List Ent:=(List.range (pgMany b)).map (qD (numsP b))
def goesP(seq of no:Nat)(b:Bk):Bool:=
 if of<=no then b==zB else okP b&&(pgSeq b==seq&&(pgNo b==no&&(pgOf b==of&&(if no+1=of then !(pgMany b==0&&decide (0<no))else pgMany b==4))))
def readSeq(l:List Bk):Nat:=pgSeq (l.getD 0 zB)
def readOf(l:List Bk):Nat:=pgOf (l.getD 0 zB)
def readOk(l:List Bk):Bool:=okP (l.getD 0 zB)&&(decide (readOf l<=l.length)&&(List.range l.length).all fun i=>goesP (readSeq l) (readOf l) i (l.getD i zB))
def entsTo(l:List Bk)(k:Nat):List Ent:=(List.range k).flatMap fun i=>pgEnts (l.getD i zB)
def readEs(l:List Bk):List Ent:=entsTo l (readOf l)
theorem Ty{b:Bk}(h:okP b=true):mayP (natsI (numsP b))=true:=by
 unfold okP okGet at h;simp only[qxo]at h;exact h.2.2.2
theorem yF{b:Bk}(h:okP b=true):pgSeq b<=1099511627776/\pgNo b<=255/\1<=pgOf b/\pgOf b<=256/\pgMany b<=4:=by
 have k:=Ty h;unfold mayP at k;rw[qxo,qxo]at k;have A:(natsI (numsP b)).length=20:=by simp[natsI,numsP,zR,UV]
 have j:=k.1.1;have w0:=yg j (i:=0) de oM;have w1:=yg j (i:=1) de oM;have q:=yg j (i:=2) de oM;have s:=yg j (i:=3) de oM;have e:∀i (v:i<(natsI (numsP b)).length),(natsI (numsP b))[i]=((numsP b).getD i 0:Nat):=fun i v=>by
  rw[<-zT,qyg,qyk v];rfl
 rw[e]at w0 w1 q s;simp only[bndP,qyt,qys]at w0 w1 q s;unfold pgSeq pgNo pgOf pgMany;omega
theorem Wq{p:Nat}{b:Bk}{T:TypeId}(h:w.heap[p]?=some (.cells (dsP (natsI (numsP b))).toArray T (0,0)))(q:okP b=true):
  w.cell? ⟨p,0,none⟩=some (.int .i64 (pgSeq b:Nat))/\w.cell? ⟨p,1,none⟩=some (.int .i64 (pgNo b:Nat))/\w.cell? ⟨p,2,none⟩=some (.int .i64 (pgOf b:Nat))/\w.cell? ⟨p,3,none⟩=some (.int .i64 (pgMany b:Nat))/\w.rangeAt p 4 ((pgEnts b).flatMap entC):=by
 refine⟨?_,?_,?_,?_,?_⟩
 .rw [za h 0];show some (Value.int .i64 ((natsI (numsP b)).getD 0 0))=_;rw[zT];rfl
 .rw [za h 1];show some (Value.int .i64 ((natsI (numsP b)).getD 1 0))=_;rw[zT];rfl
 .rw [za h 2];show some (Value.int .i64 ((natsI (numsP b)).getD 2 0))=_;rw[zT];rfl
 .rw [za h 3];show some (Value.int .i64 ((natsI (numsP b)).getD 3 0))=_;rw[zT];rfl
 .obtain ⟨-,-,-,-,s⟩:=yF q;intro j u k;have v:=(qym.1 k).1;rw[za h];have e:(dsP (natsI (numsP b))).toArray[4+j]?=((List.range 4).flatMap fun i=>entC (qD (numsP b) i))[j]?:=by
   rw[qyr];unfold dsP dsPk;rw[qyi oe];simp only[qza,qzd];rw[show 4+j-(0+1+1+1+1)=j by omega]
   congr 1
   rw[List.flatMap_def,List.flatMap_def]
   congr 1
   apply List.map_congr_left;intro i A;rw[if_pos (qzt.1 A),JG]
  rw[e,<-k];unfold pgEnts;rw[List.flatMap_map];rw[show List.range 4=List.range (pgMany b)++(List.range (4-pgMany b)).map (pgMany b+·) by rw[<-List.range_add,Nat.add_sub_cancel' s],qye,qyh];have:((List.range (pgMany b)).flatMap fun i=>entC (qD (numsP b) i))=((pgEnts b).flatMap entC):=by unfold pgEnts;rw[List.flatMap_map]
  rw[this];exact v
theorem uD{E:List Ent}(F:seq<=1099511627776)(G:∀x∈E,XV x)(H:needN E.length<=256){k:Nat}(J:k<needN E.length):
  let b:=sectP (pageXs seq (needN E.length) E k)
  okP b=true/\pgSeq b=seq/\pgNo b=k/\pgOf b=needN E.length/\pgMany b=(partE E k).length/\pgEnts b=partE E k:=by
 intro b;obtain⟨h1,h2⟩:=QI (xe seq (needN E.length) E k) (tY F G H J);have j:numsP b=pgN seq k (needN E.length) (partE E k).length (padE (partE E k)):=by
  have:natsI (numsP b)=natsI (pgN seq k (needN E.length) (partE E k).length (padE (partE E k))):=h2;unfold natsI at this;exact(List.map_inj_right (f:=fun(n:Nat)=>(n:Int)) (fun x y h=>Int.ofNat_inj.1 h)).1 this
 have v:pgMany b=(partE E k).length:=by unfold pgMany;rw[j];rfl
 refine⟨h1,?_,?_,?_,v,?_⟩
 .unfold pgSeq;rw[j];rfl
 .unfold pgNo;rw[j];rfl
 .unfold pgOf;rw[j];rfl
 .unfold pgEnts;rw[v,j];have M:=qS E k;have N:∀i,i<(partE E k).length->qD (pgN seq k (needN E.length) (partE E k).length (padE (partE E k))) i=(partE E k).getD i Ent.none:=by
   intro i O;have A:=ZG seq k (needN E.length) (partE E k).length (padE (partE E k)) (i:=i) (by rw[qT M];omega);have Q:(padE (partE E k)).getD i Ent.none=(partE E k).getD i Ent.none:=by
    simp[padE,List.getD_eq_getElem?_getD,List.getElem?_append_left O]
   rw[Q]at A;generalize (partE E k).getD i Ent.none=x at*;generalize pgN seq k (needN E.length) (partE E k).length (padE (partE E k))=S at*;have s:∀q,q<4->S.getD (4+4*i+q) 0=(entN x).getD q 0:=fun q T=>by
    have:=congrArg (fun l=>l.getD q 0) A;simp only[xJ _ _ _ T,zT]at this;exact Int.ofNat_inj.1 this
   have D:=s 0 oM;have q1:=s 1 oM;have q2:=s 2 oM;have U:=s 3 oM;unfold qD;rw[qXn]at D;rw[D,q1,q2,U];obtain⟨b,V,d,m⟩:=x;cases d<;>rfl
  apply qyd
  .simp
  .intro i h1 h2;rw[qyu,List.getElem_range,N i h2,qyg,qyk h2];rfl
theorem Wr(E:List Ent):∀k,(List.range k).flatMap (partE E)=E.take (4*k)
 |0=>oe
 |k+1=>by
  rw[qXd,qye,Wr E k];simp only[qyf,List.flatMap_nil,qxx,partE];rw[show 4*(k+1)=4*k+4 by omega,List.take_add]
theorem JH(E:List Ent)(k:Nat):(partE E k).length=min 4 (E.length-4*k):=by simp[partE]
theorem VW{E:List Ent}(s:seq<=1099511627776)(v:∀x∈E,XV x)(A:needN E.length<=256){l:List Bk}(T:needN E.length<=l.length)(G:∀i<l.length,l.getD i zB=(pagesB seq E).getD i zB):
  readOk l=true/\readSeq l=seq/\readEs l=E:=by
 have H:1<=needN E.length:=by unfold needN;omega
 have D:∀i,i<needN E.length->l.getD i zB=sectP (pageXs seq (needN E.length) E i):=fun i j=>by
  rw[G i oM,pagesB,yj,qyg,qyn,List.getElem?_range j];rfl
 have F:=uD s v A (k:=0) H;dsimp only at F;rw[<-D 0 H]at F;obtain⟨a1,a2,a3,a4,a5,V⟩:=F;have J:readOf l=needN E.length:=a4;refine⟨?_,a2,?_⟩
 .unfold readOk;rw[a1,J,qYs T,qxp,qxp,qxv];intro i j;have j:=qzt.1 j;unfold goesP;by_cases h:needN E.length<=i
  .rw [if_pos h,G i j,qyg,qyl (by rw[pagesB,xW];exact h)];simp
  .rw [if_neg h];obtain⟨M,N,O,Q,S,q⟩:=uD s v A (k:=i) oM;rw[<-D i oM]at M N O Q S q;rw[M,N,O,Q,S,show readSeq l=seq from a2,JH];unfold needN at h⊢;split
   .next U=>
    simp only[qxp,beq_self_eq_true,Bool.not_eq_true',Bool.and_eq_false_iff,qYp,qYr];by_cases W:i=0
    .right;omega
    .left;omega
   .next U=>
    simp only[qxp,beq_self_eq_true,beq_iff_eq];omega
 .unfold readEs entsTo;rw[J];have:(List.range (needN E.length)).flatMap (fun i=>pgEnts (l.getD i zB))=(List.range (needN E.length)).flatMap (partE E):=by
   rw[List.flatMap_def,List.flatMap_def]
   congr 1
   apply List.map_congr_left;intro i j;obtain⟨-,-,-,-,-,q⟩:=uD s v A (k:=i) (qzt.1 j);rw[<-D i (qzt.1 j)]at q;exact q
  rw[this,Wr,qXk (by unfold needN;omega)]
theorem JI:okP zB=false:=kR
end Go.Proofs.YtpejdgiccaijfaaGreatDoor
