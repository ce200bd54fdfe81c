/- attach.Attach: -/
import Derived.Test.YtpejdgiccaijfaaGreatDoorG19
import Derived.Test.YtpejdgiccaijfaaGreatDoorG18
set_option maxRecDepth 100000
set_option maxHeartbeats 1000000
namespace Go.Proofs.YtpejdgiccaijfaaGreatDoor
open Go Go.RowKit Tryz
variable{b s13:Nat}{w:World}{S:Nat->Prop}{own:Nat->Nat}{n:CaN}{x:Value}
section
structure Dvs(own:Nat->Nat)(w:World)(ssd back:Nat)(F:List Bk)(O:List (Nat×Bk))(G:List Bk)(Q:List (Nat×Bk))(P:List Int):Prop where
 ssd:Dv (fun j=>own j=2) w ssd F O []
 back:Dv (fun j=>own j=3) w back G Q P
 far:∀j,w.heap.size<=j->own j=0
 nib:Nib w
 tur:Tur w
 on:own 0=0
 ot:own 1=0
section
variable{own own':Nat->Nat}{w w':World}{ssd back:Nat}{F G:List Bk}{O Q:List (Nat×Bk)}{P:List Int}
theorem Dvs.new(a:Dvs own w ssd back F O G Q P)(hu:Upd (fun _=>False) w w'):Dvs own w' ssd back F O G Q P:=
 ⟨a.ssd.new hu,a.back.new hu,fun h j=>a.far h (qXr hu.size j),a.nib.keep hu id,a.tur.keep hu id,a.on,a.ot⟩
theorem Dvs.ko(j:Dvs own w ssd back F O G Q P)(hu:Upd (fun _=>False) w w'):Did own own w w':=⟨hu.mono fE,fun _ _=>rfl,fun a h=>by rw[j.far a h];decide,fun a h=>j.far a (qXr hu.size h)⟩
theorem Dvs.kP(h:Dvs own w ssd back F O G Q P):Dv (fun j=>own j=2\/w.heap.size<=j) w ssd F O []:=(Dv.kQ _ _ _ _).open h.ssd
theorem Dvs.on2(h:Dvs own w ssd back F O G Q P):¬(own 0=2\/w.heap.size<=0):=fun a=>by rcases a with a|a;rw[h.on]at a;exact absurd a de;exact absurd h.nib.lt oM
theorem Dvs.kL{k:List Bk}{p:List (Nat×Bk)}(h:Dvs own w ssd back F O G Q P)(hu:Upd (fun a=>own a=2\/w.heap.size<=a) w w')(q:Dv (fun a=>own a=2\/w.heap.size<=a) w' ssd k p []):Dvs (grow own 2 w.heap.size w'.heap.size) w' ssd back k p G Q P where
 ssd:=(Dv.kQ _ _ _ _).mine hu.size q
 back:=(Dv.kQ _ _ _ _).other h.back de hu
 far:=(Did.step h.far (t:=2) de de hu).far
 nib:=h.nib.keep hu h.on2
 tur:=h.tur.keep hu (fun j=>by rcases j with j|j;rw[h.ot]at j;exact absurd j de;exact absurd h.tur.lt oM)
 on:=(zw h.nib.lt).trans h.on
 ot:=(zw h.tur.lt).trans h.ot
theorem Dvs.did2(h:Dvs own w ssd back F O G Q P)(hu:Upd (fun j=>own j=2\/w.heap.size<=j) w w'):Did own (grow own 2 w.heap.size w'.heap.size) w w':=Did.step h.far de de hu
theorem Did.zero{o:Obj}(d:Did own own' w w')(a:w.heap[b]?=some o)(h:own b=0):w'.heap[b]?=some o/\own' b=0:=
 ⟨(d.upd.block _ (zd a) (fun j=>j.1 h)).trans a,(d.old _ (zd a)).trans h⟩
def Kps(own:Nat->Nat)(w:World)(Fx:Nat->Option Obj):Prop:=∀b o,Fx b=some o->w.heap[b]?=some o/\own b=0
theorem Kps.did{Fx:Nat->Option Obj}(a:Kps own w Fx)(d:Did own own' w w'):Kps own' w' Fx:=fun b o h=>d.zero (a b o h).1 (a b o h).2
theorem Kps.aside{Fx:Nat->Option Obj}(h:Kps own w Fx)(hu:Upd S w w')(k:∀j,S j->Fx j=none):Kps own w' Fx:=fun b o a=>
 ⟨(hu.block _ (zd (h b o a).1) (fun p=>by rw[k b p]at a;cases a)).trans (h b o a).1,(h b o a).2⟩
theorem qh{v:Array Value}{t:TypeId}(p:Nib w)(q:Tur w)(j:w.heap[b]?=some (.cells v t (0,0)))(s:own b=0)(k:∀A x,v[0]?≠some (.int A x)):∀a,a=b->own a=0/\a≠0/\a≠1:=by
 rintro a rfl;refine⟨s,fun e=>?_,fun e=>?_⟩
 .have h2:=za j 0;rw[e]at h2;exact k _ _ (h2.symm.trans (p.c 0 de))
 .have h2:=za j 0;rw[e]at h2;exact k _ _ (h2.symm.trans q.c0)
theorem Did.mine{j:World}(d:Did own own' w w')(hu:Upd (fun a=>a=b) w' j)(p:w.heap.size<=b):Did own own' w j:=
 ⟨d.upd.new hu (fun i q e=>oM),d.old,d.new,fun a k=>d.far a (qXr hu.size k)⟩
theorem xo{v u:Value}{t:TypeId}(h:w.heap[b]?=some (.cells #[v] t (0,0))):(w.setCell ⟨b,0,none⟩ u).heap[b]?=some (.cells #[u] t (0,0)):=zh h 0 u
end
def zfq(own:Nat->Nat)(w:World)(ssd back s13:Nat)(n:CaN)(a:CaS)(e:Ending)(w':World):Prop:=
 e=.returned (.int .i64 0)/\∃c p own' w2,CaAt own' w2 c n p a/\p.ssd=ssd/\p.back=back/\Did own own' w w2/\w'=w2.setCell ⟨s13,0,none⟩ (ptr c)
theorem zgT{ssd back s8 q A D E H:Nat}{ao:Option Addr}{ln J:Nat}{a:CaS}(wh sq:Nat)
  (L:Calls prog 89 #[.agg n.C.toArray,ptr ssd,ptr back,.int .i64 (wh:Int),.int .i64 ((sq+1:Nat):Int),.slice ao ln J] w (YH own w ssd back n a))
  (af:sq<1099511627776) (k:w.rangeAt s8 0 n.C) (X:w.cell? ⟨q,0,none⟩=some (ptr ssd)) (Y:w.cell? ⟨A,0,none⟩=some (ptr back)) (Z:w.cell? ⟨D,0,none⟩=some (.int .i64 (wh:Int)))
  (a6:w.cell? ⟨E,0,none⟩=some (.int .i64 (sq:Int))) (a7:w.cell? ⟨H,0,none⟩=some (.slice ao ln J)) (M:w.heap[s13]?=some (.cells #[x] 98 (0,0))) (N:own s13=0):
  Calls prog 88 #[ptr s8,ptr q,ptr A,ptr D,ptr E,ptr H,ptr s13] w (zfq own w ssd back s13 n a):=by
 obtain⟨a8,p⟩:=qqe (n.C);have h:=qqh L;have aa:(prog.info? 44).map (·.size)=some a8.length:=by rw[p];exact xB
 rw[<-p]at k h;rw[show((sq+1:Nat):Int)=(sq:Int)+1 by simp]at h;have T:=Y2 M N;clear L p M N;go_enter func88,ntmps88
 go_wp2_with (first
  |(refine qYz rfl _ _ rfl _ _ rfl _ _ k underlying44 rfl aa ?_)
  |fail)
 refine h.out.mono ?_;rintro e ab ⟨c,ad,ae,rfl,U,V,W,s⟩;have v:=(s.zero T.o.1 T.o.2).1;have ag:=za v 0;have ah:=zf v 0;have j:=Y4 W s U V;clear W s v U V k X Y Z a6 a7 h;go_wp2
 go_ret
 exact⟨rfl,c,ad,ae,ab,j.o.1,j.o.2.2.1,j.o.2.2.2,j.o.2.1,rfl⟩
def zfr(_own:Nat->Nat)(w:World)(d s14:Nat)(n:CaN)(e:Ending)(w':World):Prop:=
 e=.returned (.int .i64 0)/\∃li lc lf w2,LogI w2 li d (1+2*n.pa+n.jo) n.lo 150/\LogC w2 lc d (1+2*n.pa+n.jo+n.lo) n.lo 154/\LogF w2 lf d (1+2*n.pa+n.jo+n.lo+n.lo) n.lo 158/\
  (w.heap.size<=li/\w.heap.size<=lc/\w.heap.size<=lf)/\Upd (fun _=>False) w w2/\w'=w2.setCells s14 0 [ptr li,ptr lc,ptr lf]
theorem yA:(prog.info? 103).map (·.size)=some 3:=kR
theorem zgU{c k:Nat}{p:CaP}{a:CaS}{y z:Value}(s:CaAt own w c n p a)(V:w.cell? ⟨s13,0,none⟩=some (ptr c))(v:w.heap[k]?=some (.cells #[x,y,z] 103 (0,0))):
  Calls prog 90 #[ptr s13,ptr k] w (zfr own w p.ssd k n):=by
 have A:=qqh (zfa s);have W:=qqh v;clear s v;go_enter func90,ntmps90
 go_wp2_with fail
 refine A.o.mono ?_;rintro e X ⟨D,E,H,rfl,J,L,M,N,T⟩;have q:=qqb T;have U:=q.j4 W.o;have Y:=zF (n:=3) U oe;have j:=Y5 J L M N q;clear J L M N q T U V A;go_wp2_with (first
  |(refine qZb rfl _ _ _ rfl _ _ [ptr D,ptr E,ptr H].toArray rfl rfl Y yA oK ?_)
  |fail)
 go_ret
 exact⟨rfl,D,E,H,X,j.o.1,j.o.2.1,j.o.2.2.1,j.o.2.2.2.1,j.o.2.2.2.2,rfl⟩
theorem zgV{c:Nat}{p:CaP}{a':CaS}(a:Calls prog 95 #[ptr c] w (zt own w c n p a' (.int .i64 0)))(q:w.cell? ⟨s13,0,none⟩=some (ptr c)):
  Calls prog 94 #[ptr s13] w (zt own w c n p a' (.int .i64 0)):=by
 have h:=qqh a;clear a;go_enter func94,ntmps94
 go_wp2_with fail
 refine h.o.mono ?_;rintro e v ⟨rfl,s,h2,j⟩;have k:=Y2 h2 j;clear h2 j h q;go_wp2
 go_ret
 exact⟨rfl,s,k.o.1,k.o.2⟩
section
variable{own own':Nat->Nat}{w w':World}{ssd back:Nat}{F G:List Bk}{O Q:List (Nat×Bk)}{P:List Int}
theorem Dvs.ky(h:Dvs own w ssd back F O G Q P)(hu:Upd S w w')(p:∀a,S a->own a=0/\a≠0/\a≠1):Dvs own w' ssd back F O G Q P:=by
 have s:∀(q a:Nat),q≠0->own a=q->¬S a:=fun q a v j k=>v (j.symm.trans (p a k).1);exact{h with
  ssd:=h.ssd.keep hu (fun a j=>s _ a de j)
  back:=h.back.keep hu (fun a j=>s _ a de j)
  far:=fun a j=>h.far a (qXr hu.size j)
  nib:=h.nib.keep hu (fun k=>(p _ k).2.1 rfl)
  tur:=h.tur.keep hu (fun k=>(p _ k).2.2 rfl)}
theorem Dvs.handed(k:Dvs own w ssd back F O G Q P){v:Value}(q:From w.heap.size v)(_:∀g,v.ownBlock=some g->g<w'.heap.size)(hu:Upd (fun a=>own a=2\/w.heap.size<=a) w w')
  (s:Dv (fun a=>(own a=2\/w.heap.size<=a)/\∀g,v.ownBlock=some g->g≠a) w' ssd F O []):
  ∃own',Dvs own' w' ssd back F O G Q P/\Did own own' w w'/\∀g,v.ownBlock=some g->w.heap.size<=g/\own' g=0:=by
 have h1:=k.kL hu (s.wide (fun a k=>k.1));have p:=k.did2 hu;have D:∀a,a<w.heap.size->v.ownBlock≠some a:=fun a h e=>by have:=q a e;omega
 refine⟨fun a=>if v.ownBlock=some a then 0 else grow own 2 w.heap.size w'.heap.size a,⟨?_,?_,fun a h=>?_,h1.nib,h1.tur,?_,?_⟩,⟨p.upd,fun a h=>?_,fun a h=>?_,fun a h=>?_⟩,fun g A=>⟨q g A,by show(if v.ownBlock=some g then 0 else _)=0;rw[if_pos A]⟩⟩
 .refine (Dv.kQ _ _ _ _).out s (fun a h j=>?_);show(if v.ownBlock=some a then 0 else grow own 2 w.heap.size w'.heap.size a)=2;rw[if_neg (fun e=>j.2 a e rfl)];unfold grow;split
  .rfl
  .rcases j.1 with k|k
   .exact k
   .omega
 .refine (Dv.kQ _ _ _ _).out h1.back (fun a h j=>?_);show(if v.ownBlock=some a then 0 else grow own 2 w.heap.size w'.heap.size a)=3;rw[if_neg ?_]
  .exact j
  .intro e;have:=q a e;have j:grow own 2 w.heap.size w'.heap.size a=3:=j;unfold grow at j;rw[if_pos ⟨this,h⟩]at j;cases j
 .show (if v.ownBlock=some a then 0 else _)=0;split
  .rfl
  .exact p.far a h
 .show (if v.ownBlock=some _ then 0 else _)=0;split
  .rfl
  .exact h1.on
 .show (if v.ownBlock=some _ then 0 else _)=0;split
  .rfl
  .exact h1.ot
 .show (if v.ownBlock=some a then 0 else _)=_;rw[if_neg (D a h)];exact p.old a h
 .show (if v.ownBlock=some a then 0 else _)<16;split
  .decide
  .exact p.new a h
 .show (if v.ownBlock=some a then 0 else _)=0;split
  .rfl
  .exact p.far a h
end
open Go Go.RowKit Go.Shelf Go.Lib Tryz
def A4Y(bad:Prop)(S:Nat->Prop)(w:World)(d s15:Nat)(F:List Bk)(O:List (Nat×Bk))(e:Ending)(w':World):Prop:=
 ∃cd,(cd=0\/bad/\cd=12)/\e=.returned (.int .i64 cd)/\∃w2,Dv S w2 d F O []/\Upd S w w2/\w'=w2.setCell ⟨s15,0,none⟩ (.slice none 0 0)
theorem zfs{bad:Prop}{h j p d base k q a:Nat}{F:List Bk}{O:List (Nat×Bk)}(E:LgsY bad S w h j p d base k F O)(H:w.heap[q]?=some (.cells #[ptr h,ptr j,ptr p] 103 (0,0)))
  (J:w.heap[a]?=some (.cells #[x] 104 (0,0))) (L:¬S a):
  Calls prog 92 #[ptr q,ptr a] w (A4Y bad S w d a F O):=by
 have M:=qqh (zaL E);have N:w.rangeAt q 0 [ptr h,ptr j,ptr p]:=zg H;have s:=Y2 J L;clear E H J L;go_enter func92,ntmps92
 go_wp2_with (first
  |(refine qYz rfl _ _ rfl _ _ rfl _ _ N underlying103 rfl yA ?_)
  |fail)
 refine M.o.mono ?_;rintro e V ⟨W,T,rfl,U,v⟩;have A:=(v.block _ (zd s.o.1) s.o.2).trans s.o.1;have X:=za A 0;have Y:=zf A 0;have D:=Y3 T U v;clear U v A N M T;go_wp2
 go_ret
 exact⟨W,D.o.1,rfl,V,D.o.2.1,D.o.2.2,rfl⟩
end
section
theorem Ug(F:List Bk)(O:List (Nat×Bk)):yY F O []=F:=by simp[yY]
end
end Go.Proofs.YtpejdgiccaijfaaGreatDoor
