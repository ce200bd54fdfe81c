/- A journal in m -/
import Derived.Test.YtpejdgiccaijfaaGreatDoorG02
import Derived.Test.YtpejdgiccaijfaaGreatDoorG05
import Derived.Lib.SliceRun
set_option maxRecDepth 100000
set_option maxHeartbeats 1000000
namespace Go.Proofs.YtpejdgiccaijfaaGreatDoor
open Go Go.RowKit Tryz
variable{w:World}{next n j d base cov:Nat}{W O:List (Nat×Bk)}{S T:Nat->Prop}{vw:Value}{F:List Bk}{P:List Int}
structure JnGood(base n cov next:Nat)(W:List (Nat×Bk)):Prop where
 w64:∀p∈W,p.2.length=64
 lt:∀p∈W,p.1<next
 n1:1<=n/\n<=1024
 wl:W.length+cov+1<=next
 room:next<=cov+n+1
 mx:next<=1099511627777
 bs:base<=4096
structure JnAt(w:World)(j:Nat)(vw:Value)(d base n cov next:Nat)(W:List (Nat×Bk)):Prop where
 str:w.heap[j]?=some (.cells #[.pointer (some ⟨d,0,none⟩),.int .i64 base,.int .i64 n,.int .i64 cov,.int .i64 next,vw] 319 (0,0))
 ws:Sl w 365 65 vw W.length (Al W)
 wb:vw.ownBlock≠some j
 good:JnGood base n cov next W
def jnS(j:Nat)(vw:Value):Nat->Prop:=fun k=>k=j\/vw.ownBlock=some k
section
variable{w w':World}{j d base n cov next:Nat}{vw:Value}{W:List (Nat×Bk)}
theorem JnAt.keep(a:JnAt w j vw d base n cov next W)(hu:Upd S w w')(b:∀h,jnS j vw h->¬S h):JnAt w' j vw d base n cov next W:=
 {a with
  str:=(hu.block _ (zd a.str) (b j (.inl rfl))).trans a.str
  ws:=a.ws.keep hu (fun g k=>b g (.inr k))}
theorem JnAt.new(h:JnAt w j vw d base n cov next W)(hu:Upd (fun _=>False) w w'):JnAt w' j vw d base n cov next W:=h.keep hu (fun _ _ h=>h)
theorem JnAt.slt(b:JnAt w j vw d base n cov next W):∀a,jnS j vw a->a<w.heap.size:=by
 rintro a (rfl|h)
 .exact zd b.str
 .exact b.ws.lt h
theorem JnAt.c(h:JnAt w j vw d base n cov next W):w.cell? ⟨j,0,none⟩=some (.pointer (some ⟨d,0,none⟩))/\w.cell? ⟨j,1,none⟩=some (.int .i64 base)/\w.cell? ⟨j,2,none⟩=some (.int .i64 n)/\
  w.cell? ⟨j,3,none⟩=some (.int .i64 cov)/\w.cell? ⟨j,4,none⟩=some (.int .i64 next)/\w.cell? ⟨j,5,none⟩=some vw:=by
 refine⟨?_,?_,?_,?_,?_,?_⟩<;>rw[za h.str]<;>rfl
theorem JnAt.fz(h:JnAt w j vw d base n cov next W)(i:Nat):w.frozen? ⟨j,i,none⟩=false:=zf h.str i
structure WtAt(w:World)(vw:Value)(next:Nat)(W:List (Nat×Bk)):Prop where
 ws:Sl w 365 65 vw W.length (Al W)
 w64:∀p∈W,p.2.length=64
 lt:∀p∈W,p.1<next
 wl:W.length+1<=next
 mx:next<=1099511627777
theorem JnAt.wt(h:JnAt w j vw d base n cov next W):WtAt w vw next W:=⟨h.ws,h.good.w64,h.good.lt,by have:=h.good.wl;omega,h.good.mx⟩
theorem WtAt.keep(a:WtAt w vw next W)(hu:Upd S w w')(h:∀b,vw.ownBlock=some b->¬S b):WtAt w' vw next W:={a with ws:=a.ws.keep hu h}
theorem WtAt.new(h:WtAt w vw next W)(hu:Upd (fun _=>False) w w'):WtAt w' vw next W:=h.keep hu (fun _ _ h=>h)
theorem WtAt.range(h:WtAt w vw next W){k:Nat}(p:k<W.length):∃g a b,vw=.slice (some ⟨g,a,none⟩) W.length b/\g<w.heap.size/\W.length<=b/\w.rangeAt g (a+k*65) (wrC W[k].1 W[k].2):=by
 obtain⟨E,⟨_,G⟩|⟨g,a,b,H,rfl,q,A,J,L,D⟩⟩:=h.ws
 .omega
 .refine ⟨g,a,b,rfl,zd q,A,fun j M s=>?_⟩;have v:=(qym.1 s).1;rw[wrC_len,h.w64 _ (qyv p)]at v;rw[za q,qXm];exact D _ _ (by rw[RY h.w64 p v];exact s)
theorem JnAt.range(h:JnAt w j vw d base n cov next W){k:Nat}(p:k<W.length):∃g a b,vw=.slice (some ⟨g,a,none⟩) W.length b/\g<w.heap.size/\W.length<=b/\w.rangeAt g (a+k*65) (wrC W[k].1 W[k].2):=h.wt.range p
end
def Jn(S:Nat->Prop)(w:World)(j d base n cov next:Nat)(W:List (Nat×Bk)):Prop:=∃vw,JnAt w j vw d base n cov next W/\∀k,jnS j vw k->S k
theorem Jn.kQ(j d base n cov next:Nat)(W:List (Nat×Bk)):Thing (fun S w=>Jn S w j d base n cov next W)where
 keep:=fun a q k=>by
  obtain⟨p,a,b⟩:=a;exact⟨p,a.keep q (fun j h=>k j (b j h)),b⟩
 out:=fun a k=>by
  obtain⟨p,a,b⟩:=a;exact⟨p,a,fun j h=>k j (a.slt j h) (b j h)⟩
theorem Jn.good(h:Jn S w j d base n cov next W):JnGood base n cov next W:=by obtain⟨v,h,-⟩:=h;exact h.good
theorem QC(a:Jn S w j d base n cov next W):
  Calls prog 165 #[.pointer (some ⟨j,0,none⟩)] w fun e w'=>e=.returned (.int .i64 (next:Int))/\w=w':=by
 obtain⟨p,a,-⟩:=a;obtain⟨b,c1,c2,h,k,q⟩:=a.c;exact zeC w j d base n cov next ⟨b,c1,c2,h,k⟩
theorem Sy{b:Nat}(h:Dv T w b F O P)(a:∀j,w.heap.size<=j->S j)(base n seq:Nat)(h1:1<=n)(h2:n<=1024)(k:base+n<=F.length)(v:seq<1099511627776):
  Calls prog 139 #[.pointer (some ⟨b,0,none⟩),.int .i64 (base:Int),.int .i64 (n:Int),.int .i64 (seq:Int)] w fun e w'=>∃j,e=.returned (.tuple #[.pointer (some ⟨j,0,none⟩),.int .i64 0])/\
   Jn S w' j b base n seq (seq+1) []/\w.heap.size<=j/\Below w.heap.size w w':=by
 have p:=h.good.fl;have q1:decide ((seq:Int)<0)=false:=oe;have q2:decide ((seq:Int)>=1099511627776)=false:=by simp;omega
 have A:¬(1099511627776<=(seq:Int)):=oM;go_enter func139,ntmps139
 go_wp2_with (first
  |(go_at_call 200;refine(UI h base n h1 h2 k p).mono ?_;rintro e w' ⟨rfl,rfl⟩)
  |fail)
 go_ret2
 have q:=zc w (.cells #[.pointer (some ⟨b,0,none⟩),.int .i64 (base:Int),.int .i64 (n:Int),.int .i64 (seq:Int),.int .i64 ((seq:Int)+1),.slice none 0 0] 319) rfl;refine⟨w.heap.size,rfl,⟨.slice none 0 0,⟨?_,Sl.nil _ _ _,by simp[Value.ownBlock],⟨oe,oe,⟨h1,h2⟩,oe,oM,oM,oM⟩⟩,?_⟩,qXp _,(qxl _ w).alloc (qXp _) _⟩
 .rw [q];simp
 .rintro D (rfl|s)
  .exact a _ (qXp _)
  .cases s
theorem zcf:(prog.info? 365).map (·.size)=some 65:=kR
theorem uz(s:Int)(x:Bk)(hx:x.length=64):(prog.info? 365).map (·.size)=some (wrC s x).length:=by
 rw[zcf,wrC_len,hx]
theorem qR:Tryz.zeroCells365.size=65:=kR
theorem zbL(w:World)(q:Nat)(s:Int)(a:w.cell? ⟨q,0,none⟩=some (.int .i64 s))(x:Nat)(y:Bk)(hx:(x:Int)<=s):
  Calls prog 231 #[.agg (wrC (x:Int) y).toArray,.pointer (some ⟨q,0,none⟩)] w fun e w'=>e=.returned (.bool true)/\Below w.heap.size w w':=by
 have p:q<w.heap.size:=(zE a).2;obtain⟨b,h⟩:=qqe ((wrC (x:Int) y).toArray);have k:b[0]?=some (.int .i64 (x:Int)):=by rw[h];rfl
 have q1:decide ((x:Int)<=s)=true:=by simpa using hx
 have v:(w.alloc (.cells b 365)).cell? ⟨q,0,none⟩=some (.int .i64 s):=zl a _;have A:(w.alloc (.cells b 365)).cell? ⟨w.heap.size,0,none⟩=some (.int .i64 (x:Int)):=(za (zc w _ rfl) 0).trans k;rw[<-h];clear h a;go_enter func231,ntmps231
 go_wp2
 go_ret
 exact⟨rfl,(qxl _ _).alloc (qXp _) _⟩
theorem zcg:(prog.info? 365).map (fun i=>(i.zero.map (fun z=>(z.cells.size,z.cells.all (·.oneCell'))),i.size))=some (some (65,true),65):=kR
theorem Yo:∃i z,prog.info? 365=some i/\i.zero=some z/\z.cells.size=65/\z.cells.all (·.oneCell')=true/\i.size=65:=by
 obtain⟨i,h,b⟩:=qYc.1 zcg;simp only[qYe]at b;obtain⟨h1,h2⟩:=b;obtain⟨z,k,a⟩:=qYc.1 h1;simp only[qYe]at a;exact⟨i,z,h,k,a.1,a.2,h2⟩
theorem Yp{g off cap:Nat}{a:Array Value}(k:w.heap[g]?=some (.cells a 365 (0,0)))(Q:off+n*65<=a.size)(U:0<n):
  ∃w',(∀p,(Builtin.clear_ #[317] p #[.slice (some ⟨g,off,none⟩) n cap]).run prog w=.ok (.tuple #[]) w')/\Upd (fun j=>j=g) w w'/\
   ∃b,w'.heap[g]?=some (.cells b 365 (0,0))/\b.size=a.size:=by
 obtain⟨i,z,E,G,H,J,V⟩:=Yo;have L:(Builtin.zeroCells z.cells n).toList.length=n*65:=by simp[Builtin.zeroCells,H]
 have h1:∀q∈(Builtin.zeroCells z.cells n).toList,q.oneCell'=true:=by
  intro q s;simp only[Builtin.zeroCells,Array.toList_map,qzr]at s;obtain⟨v,X,rfl⟩:=s;have:v%z.cells.size<z.cells.size:=qXu _ oM;rw[getElem!_pos z.cells (v%z.cells.size) this];exact Array.all_eq_true.1 J _ this
 have A:=run_storeCells_cells (P:=prog) g off (Builtin.zeroCells z.cells n).toList 0 w
  (fun j D=>by rw[L]at D;rw[za k,qXn,qxe oM];rfl) (fun j D=>zf k _) h1
 simp only[qXn]at A;obtain⟨b,h2,M,-⟩:=zy (Builtin.zeroCells z.cells n).toList off w g a _ _ k;have N:∀w,(zeroValue 365).run prog w=.ok z w:=fun w=>by simp[zeroValue,typeInfo,E,G]
 refine⟨_,fun p=>?_,ym _ w g off _ rfl,b,h2,M⟩;obtain⟨m,rfl⟩:∃m,n=m+1:=⟨n-1,oM⟩
 simp[Builtin.clear_,run_underlying underlying317,N,A]
abbrev zeJ(q:Nat):Value:=.func (.func 231) #[] #[.pointer (some ⟨q,0,none⟩)]
theorem zgs(h:WtAt w vw next W)(q:Nat)(s:Int)(k:w.cell? ⟨q,0,none⟩=some (.int .i64 s))(A:s=(next:Int)-1):
  Calls prog 300 #[vw,zeJ q] w fun e w'=>e=.returned (.int .i64 (if W=[]then-1 else 0))/\Below w.heap.size w w':=by
 by_cases a:W=[]
 .subst a;rw[if_pos rfl];obtain⟨H,c,rfl⟩:=h.ws.rd.j6;clear h;go_enter func300,ntmps300
  go_wp2
  go_loop [8] (fun i=>i=.int .i64 0) (fun _=>0)
  case atStart=>rfl
  case round=>
   subst hrel;go_wp2
   go_ret
   exact⟨rfl,qxl _ _⟩
 .rw [if_neg a];have b:0<W.length:=by cases W with|nil=>exact absurd rfl a|cons J l=>simp
  obtain⟨g,L,M,rfl,N,Q,p⟩:=h.range b;have hlt:=h.lt W[0] (qyv b);have D:=h.w64 W[0] (qyv b);have U:=h.wl;have V:=h.mx;rw[qYa,qXn]at p;have X:(0:Int)<(W.length:Int):=oM;have v:=zbL w q s k W[0].1 W[0].2 oM;generalize W[0].1=x at*;generalize W[0].2=y at*;have E:=qqh v;clear h a v A k hlt;generalize W.length=m at*;go_enter func300,ntmps300
  go_wp2
  go_loop [8] (fun i=>i=.int .i64 0) (fun _=>0)
  case atStart=>rfl
  case round=>
   subst hrel;go_wp2_with (first
    |refine qYz rfl _ _ rfl _ _ rfl _ _ p underlying365 rfl (uz _ _ D) ?_
    |fail)
   refine E.o.mono ?_;rintro e w' ⟨rfl,G⟩;go_wp2
   go_ret
   exact⟨rfl,G⟩
def AN(w:World)(vw:Value)(e:Ending)(w':World):Prop:=∃v',e=.returned v'/\Sl w' 365 65 v' 0 []/\v'.ownBlock=vw.ownBlock/\Upd (fun k=>vw.ownBlock=some k) w w'
theorem zgt(h:WtAt w vw next W)(q:Nat)(s:Int)(b:w.cell? ⟨q,0,none⟩=some (.int .i64 s))(v:vw.ownBlock≠some q)(k:s=(next:Int)-1):
  Calls prog 230 #[vw,zeJ q] w (AN w vw):=by
 have H:=qqh (zgs h q s b k);by_cases J:W=[]
 .subst J;rw[if_pos rfl]at H;have L:=qqh h;clear h b k v;go_enter func230,ntmps230
  go_wp2_with fail
  refine H.o.mono ?_;rintro e w' ⟨rfl,E⟩;go_wp2
  go_ret
  exact⟨vw,rfl,(L.o.new (uuo E)).ws,rfl,(uuo E)⟩
 .rw [if_neg J]at H;have ae:0<W.length:=by cases W with|nil=>exact absurd rfl J|cons aq l=>simp
  obtain⟨-,⟨_,h2⟩|⟨g,U,V,ar,rfl,p,af,ag,A,-⟩⟩:=h.ws
  .omega
  unfold maxLen at ag;have au:=h.wl;have av:=h.mx;have L:=Y6 h b k p A v;clear h b k J p A v;go_enter func230,ntmps230
  go_wp2_with fail
  refine H.o.mono ?_;rintro e w1 ⟨rfl,E⟩;have ah:=qqb E;clear E;go_wp2
  go_loopw[5,6] (fun ai Q wr=>∃a:Nat,1<=a/\a<=W.length/\ai=.int .i64 0/\Q=.int .i64 a/\Upd (fun _=>False) w wr) (fun _ Q _=>W.length-(intOf Q).toNat)
  case atStart=>exact⟨1,oM,oM,rfl,rfl,ah⟩
  case round=>
   obtain⟨a,aw,ax,rfl,rfl,D⟩:=hrel;by_cases hlt:a<W.length
   .obtain ⟨h,b,k,p,A,v⟩:=L.o;obtain⟨ay,az,aA,aj,aB,aC,ak⟩:=(h.new D).range hlt;cases aj;have am:=h.lt W[a] (qyv hlt);have M:=h.w64 W[a] (qyv hlt);have aD:(0:Int)<=(a:Int):=oM;have aE:(a:Int)<(W.length:Int):=oM;have X:wr.cell? ⟨q,0,none⟩=some (.int .i64 s):=D.j3 b id;have Y:Upd (fun _=>False) w (wr.alloc (.cells (wrC (W[a].1:Int) W[a].2).toArray 365)):=D.alloc _;have an:=zg (zc wr (.cells (wrC (W[a].1:Int) W[a].2).toArray 365) rfl);have Z:=zbL (wr.alloc (.cells (wrC (W[a].1:Int) W[a].2).toArray 365)) q s (zl X _) W[a].1 W[a].2 oM;generalize W[a].1=x at*;generalize W[a].2=y at*;have a6:=Y2 Z Y;clear h Z k b am D p A v X Y;go_wp2_with (first
     |refine qYz rfl _ _ rfl _ _ rfl _ _ ak underlying365 rfl (uz _ _ M) ?_
     |refine qYz rfl _ _ rfl _ _ rfl _ _ an underlying365 rfl (uz _ _ M) ?_
     |(refine zk rfl _ _ _ rfl _ _ _ rfl rfl (by rw[qR,wrC_len,M]) (uz _ _ M) (uM _ _) ?_)
     |fail)
    refine a6.o.1.mono ?_;rintro e a7 ⟨rfl,a8⟩;have N:Upd (fun _=>False) w a7:=a6.o.2.trans (uuo a8);clear a8;go_wp2
    go_roundw
    case rel=>exact⟨a+1,oM,oM,rfl,by go_num,N⟩
    case measure=>simp[intOf];omega
   .obtain rfl:a=W.length:=oM;obtain⟨h,b,k,p,A,v⟩:=L.o;have aa:=(D.block _ (zd p) id).trans p;have ao:=qXv 65 af;obtain⟨a7,aF,N,ap,ab,ad⟩:=Yp (off:=U) (n:=W.length) (cap:=V) aa oM ae;have G:=Y5 D N ab ad A;clear h b k p A v D N ab aa ad ao;go_wp2
    go_ret
    refine⟨_,rfl,⟨oe,.inr ⟨g,U,V,ap,rfl,G.o.2.2.1,oM,by unfold maxLen;omega,by rw[G.o.2.2.2.1];exact G.o.2.2.2.2,oe⟩⟩,rfl,(G.o.1.mono fE).trans (G.o.2.1.mono (fun a _ e=>by simp[Value.ownBlock,e]))⟩
def AO(S:Nat->Prop)(w:World)(j d base n next:Nat)(e:Ending)(w':World):Prop:=e=.returned (.int .i64 0)/\Jn S w' j d base n (next-1) next []/\Upd S w w'
theorem zch(h:Jn S w j d base n cov next W)(s:Int)(p:s=(next:Int)-1):
  Calls prog 166 #[.pointer (some ⟨j,0,none⟩),.int .i64 s] w (AO S w j d base n next):=by
 obtain⟨vw,h,b⟩:=h;have k:Upd (fun _=>False) w (w.alloc (.cells #[.int .i64 s] 3)):=(uur _ w).alloc _;have ak:(w.alloc (.cells #[.int .i64 s] 3)).cell? ⟨w.heap.size,0,none⟩=some (.int .i64 s):=za (zc w _ rfl) 0;have Z:=h.new k;have ay:=zd h.str;have az:=h.good.wl;have aA:=h.good.mx;have aB:=qqf;have q1:decide (s<(cov:Int))=false:=by simp;omega
 have q2:decide ((next:Int)<=s)=false:=by simp;omega
 have q:vw.ownBlock≠some w.heap.size:=fun e=>by have:=h.ws.lt e;omega
 have am:=Y5 h k q p b;clear h q p b;go_enter func166,ntmps166
 go_wp2_with fail
 have a8:=Y2 Z ak;generalize aa:w.alloc (.cells #[.int .i64 s] 3)=w1 at*;have aC:w.heap.size<w1.heap.size:=by rw[<-aa];simp
 clear aa;obtain⟨X,c1,c2,a6,v,a7⟩:=Z.c;clear Z k
 go_quiet(fail)
 have A:Upd (fun _=>False) w1 (w1.drewN nq):=(uur _ _).drewN nq;generalize w1.drewN nq=G at*;obtain⟨h,k,q,p,b⟩:=am.o;have a:=a8.o.1.new A;have ab:G.cell? ⟨w.heap.size,0,none⟩=some (.int .i64 s):=A.j3 a8.o.2 id;clear X c1 c2 a6 v a7;obtain⟨X,c1,c2,a6,v,a7⟩:=a.c;have an:=a.fz 3;have D:=zh a.str 3 (.int .i64 s);have E:=zi G j 3 (.int .i64 s);have ad:(G.setCell ⟨j,3,none⟩ (.int .i64 s)).cell? ⟨w.heap.size,0,none⟩=some (.int .i64 s):=(E.j3 ab oM)
 have ae:vw.ownBlock≠some j:=a.wb;have af:=a.wt.keep E (fun L Y e=>ae (by rw[Y,e]));have ao:=qqh (zgt af w.heap.size s ad q p);have ag:=Y8 a A D E k b p q;have ap:=X;have aq:(G.setCell ⟨j,3,none⟩ (.int .i64 s)).cell? ⟨j,5,none⟩=some vw:=by rw[za D];rfl
 obtain⟨ar,c,au⟩:=a.ws.rd.j6;clear a A D E k b p q af ae ad h c1 c2 v ap;subst au;generalize aD:G.setCell ⟨j,3,none⟩ (.int .i64 s)=ah at*;go_wp2_with fail
 refine ao.o.mono ?_;rintro e M ⟨v4,rfl,N,Q,U⟩;obtain⟨V,v,rfl⟩:=N.rd.j6;obtain⟨a,A,D,E,k,b,p,q⟩:=ag.o;have H:=(U.block _ (zd D) a.wb).trans D;have aE:M.cell? ⟨j,5,none⟩=some (.slice ar W.length c):=by rw[za H];rfl
 have aF:=zf H 5;have av:=Y4 N Q U H;clear N Q U H a A D E k b p q X a6 a7 aq an ab;go_wp2
 go_ret
 obtain⟨a,A,D,E,k,b,p,q⟩:=ag.o;obtain⟨N,Q,U,H⟩:=av.o;have ai:=zi M j 5 (.slice V 0 v);have aw:=zh H 5 (.slice V 0 v);have aj:(Value.slice V 0 v).ownBlock≠some j:=by rw[Q];exact a.wb
 have J:=a.good;have ax:s=((next-1:Nat):Int):=by have:=J.wl;omega
 refine⟨rfl,⟨.slice V 0 v,⟨?_,N.kM ai aj,aj,⟨oe,oe,J.n1,by simp;have:=J.wl;omega,by have:=J.n1;omega,J.mx,J.bs⟩⟩,?_⟩,?_⟩
 .rw [aw,<-ax];rfl
 .rintro L (rfl|Y)
  .exact b _ (.inl rfl)
  .rw [Q]at Y;exact b _ (.inr Y)
 .have a1:Upd S w G:=(k.trans A).mono fE;have a2:Upd S G ah:=E.mono (fun L _ e=>e▸b j (.inl rfl));have a3:Upd S ah M:=U.mono (fun L _ e=>b L (.inr e));have a4:Upd S M (M.setCell ⟨j,5,none⟩ (.slice V 0 v)):=ai.mono (fun L _ e=>e▸b j (.inl rfl));exact((a1.trans a2).trans a3).trans a4
theorem AP:(prog.info? 365).map (fun i=>(i.zero.map (·.cells.size),i.size,i.bytes))=some (some 65,65,72):=kR
theorem QD:(match prog.underlying 365 with|some (.struct fs)=>fs.toList.mapM (fun f=>(prog.info? f.type).map fun i=>(f.offset,i.size))|_=>none)=some [(0,1),(1,64)]:=kR
theorem wi:∃i z,prog.info? 365=some i/\i.zero=some z/\z.cells.size=65/\i.size=65/\i.bytes=72:=by
 obtain⟨i,b,a⟩:=qYc.1 AP;simp only[qYe]at a;obtain⟨h1,h2,h⟩:=a;obtain⟨z,k,p⟩:=qYc.1 h1;exact⟨i,z,b,k,p,h2,h⟩
theorem un(p q:Value)(h:p.cells.size=1)(k:q.cells.size=64)(w:World):(Instr.build 365 #[(0,p),(1,q)]).run prog w=.ok (.agg (p.cells.toList++q.cells.toList).toArray) w:=by
 refine run_build w _ _ _ ?_;obtain⟨i,z,s,v,A,_,_⟩:=wi;have a:=QD;have b:=underlying365;unfold Program.built;rw[b]at a;rw[s,b];simp only[v];simp only at a;rw[a];exact Xn p q h k z.cells A _ rfl rfl
theorem qt(v:Value)(hv:v.cells.size=65)(w:World):(Instr.buildSlice 317 1 #[(0,v)]).run prog w=.ok (.slice (some ⟨w.heap.size,0,none⟩) 1 1) (w.alloc (.cells v.cells 365)):=by
 obtain⟨i,z,b,k,p,hsz,_⟩:=wi;refine run_buildSlice w _ _ 1 _ _ i z underlying317 b k jF jF ?_;obtain⟨a1,a2⟩:=yR 0 v.cells ((Array.range (1*i.size)).map (z.cells[·%z.cells.size]!));rw[show(#[(0,v)]:Array (Nat×Value)).toList=[(0,v)]from rfl];rw[xF _ _ 0 0 65 v _ jN hv jN];show some _=_
 congr 1
 apply qxd
 intro a;rw[a2 a];by_cases q:a<65
 .rw [if_pos ⟨oM,oM,by simp[hsz];omega⟩];rfl
 .rw [if_neg oM,qxf kh,qxf oM]
theorem Yq(b:Option Tmp)(h:TypeId)(pos:String)(after:Array Edge)(p q:Operand)(a:Act)(w:World)(K:Act->World->Prop)(Q:Exit->Act->World->Prop)(k:(a.eval p).cells.size=1)(s:(a.eval q).cells.size=64):
  Oper.wp prog {dst:=b,op:=.build 365 #[(0,p),(1,q)],type:=h,pos:=pos,after:=after,guard:=none} a w K Q=K (a.put b (.agg ((a.eval p).cells.toList++(a.eval q).cells.toList).toArray)) w:=by
 unfold Oper.wp execOp;have:=un (a.eval p) (a.eval q) k s w;simp only[qzl,qzi,qzk,qYg,this,qYf];rfl
theorem Vx(b:Option Tmp)(h:TypeId)(pos:String)(after:Array Edge)(p:Operand)(a:Act)(w:World)(K:Act->World->Prop)(Q:Exit->Act->World->Prop)(k:(a.eval p).cells.size=65):
  Oper.wp prog {dst:=b,op:=.buildSlice 317 1 #[(0,p)],type:=h,pos:=pos,after:=after,guard:=none} a w K Q=K (a.put b (.slice (some ⟨w.heap.size,0,none⟩) 1 1)) (w.alloc (.cells (a.eval p).cells 365)):=by
 unfold Oper.wp execOp;have:=qt (a.eval p) k w;simp only[qzl,qzi,qzk,qYg,this,qYf];rfl
theorem rT(a:Act)(p q:Operand)(w:World)(b:(a.eval p).cells.size=1)(h:(a.eval q).cells.size=64):
  (Instr.build 365 ((#[(0,p),(1,q)]:Array (Nat×Operand)).map fun(i,x)=>(i,a.eval x))).run prog w=.ok (.agg ((a.eval p).cells.toList++(a.eval q).cells.toList).toArray) w:=by
 have:=un (a.eval p) (a.eval q) b h w;simp only[qzl,qzi,qzk];exact this
theorem Yr(a:Act)(p:Operand)(w:World)(b:(a.eval p).cells.size=65):
  (Instr.buildSlice 317 1 ((#[(0,p)]:Array (Nat×Operand)).map fun(i,x)=>(i,a.eval x))).run prog w=.ok (.slice (some ⟨w.heap.size,0,none⟩) 1 1) (w.alloc (.cells (a.eval p).cells 365)):=by
 have:=qt (a.eval p) b w;simp only[qzl,qzi,qzk];exact this
theorem QE(s:Int)(x:Bk)(hx:x.length=64):List.foldl (fun(cs:Array Value) (x:Value×Nat)=>cs.setIfInBounds (1+x.2) x.1) (Tryz.zeroCells365.setIfInBounds 0 (.int .i64 s)) (bkC x).zipIdx=(wrC s x).toArray:=by
 have b:(bkC x).length=64:=by rw[zm,hx]
 have k:(Tryz.zeroCells365.setIfInBounds 0 (.int .i64 s)).size=65:=by rw[Array.size_setIfInBounds,qR]
 obtain⟨_,p⟩:=Go.Great.foldl_set 1 (bkC x) 0 (Tryz.zeroCells365.setIfInBounds 0 (.int .i64 s));apply qxd
 intro a;rw[p a,k];by_cases q:a<65
 .by_cases v:a=0
  .subst v;rw[if_neg oM,Array.getElem?_setIfInBounds_self_of_lt (by rw[qR];omega)];simp
  .rw [if_pos ⟨oM,oM,q⟩];obtain⟨m,rfl⟩:∃m,a=m+1:=⟨a-1,oM⟩
   simp
 .rw [if_neg oM,qxf oM,qxf (by simp[b];omega)]
theorem zeK(h:JnAt w j vw d base n cov next W){q:Nat}(Z:w.cell? ⟨q,0,none⟩=some (.pointer (some ⟨j,0,none⟩)))
     (a6:Dv T w d F O P) (a7:∀a,w.heap.size<=a->T a) (p:¬T j) (G:¬T q) (s:Nat) (an:1<=s) (ao:s<next) (y:Bk) (hy:y.length=64) (ap:base+n<=F.length) (a8:O.length<65536):
  Calls prog 246 #[.agg (wrC (s:Int) y).toArray,.pointer (some ⟨q,0,none⟩)] w (Am T w d (writeR F O P (base+(s-1)%n) y)):=by
 have H:=h.good;have aq:=H.n1;have ar:=H.bs;have au:=H.mx;obtain⟨w1,v⟩:=qqe (w.alloc (.cells (wrC (s:Int) y).toArray 365));have A:=qqu v;have N:=qqg v;obtain⟨aa,ab,ad,-,-,-⟩:=(h.new A).c;have ae:=zg N;have Q:w1.cell? ⟨w.heap.size,0,none⟩=some (.int .i64 (s:Int)):=za N 0;have U:w1.rangeAt w.heap.size 1 (bkC y):=fun i av hv=>by
  have:=ae (1+i) av jv;rw[qXy]at this;exact this
 have af:=A.j3 Z id;obtain⟨J,D⟩:=qqe ((s-1)%n);have aw:J<n:=by rw[D];exact qXu _ oM
 obtain⟨L,V⟩:=qqe (base+J);have aE:IntKind.i64.wrap ((s:Int)-1)=(s:Int)-1:=qxu _ oM;have aF:IntKind.i64.wrap (((s:Int)-1).tmod (n:Int))=(J:Int):=by
  rw[show(s:Int)-1=((s-1:Nat):Int) by omega,<-Int.ofNat_tmod,<-D];exact qxu _ oM
 have ax:IntKind.i64.wrap ((base:Int)+(J:Int))=(L:Int):=by
  rw[V,qxs];exact qxu _ oM
 have aG:IntKind.i64.wrap ((base:Int)+((s:Int)-1).tmod (n:Int))=(L:Int):=by
  rw[show(s:Int)-1=((s-1:Nat):Int) by omega,<-Int.ofNat_tmod,<-D];exact ax
 have aH:¬n=0:=oM;have ay:=underlying60;have az:=zu y hy;have ag:L<F.length:=oM;have ah:Dv (fun a=>T a/\a≠w.heap.size) w1.drew d F O P:=((a6.but (qXp _)).keep A (fun _ _ h=>h)).keep ((uur (fun _=>False) _).drew) (fun _ _ h=>h);have aA:w.heap.size+1<=w1.drew.heap.size:=by rw[v];simp
 have ai:Upd T w w1.drew:=(A.drew).mono fE;rw[<-D,<-V];have k:=Y6 ah (fun a (M:w1.drew.heap.size<=a)=>(⟨a7 a oM,oM⟩:T a/\a≠w.heap.size)) ag hy a8 ai;have aB:=qqh v;have aj:=Y2 p G;obtain⟨m,X⟩:=qqe (w.heap.size);rw[<-X]at Q U k;have aC:=qqh X;clear p G ah a7 ag a8 aA ai v A N a6 h Z H ae D V aw hy X ap ar au an ao aq;go_enter func246,ntmps246
 go_wp2
 rw[<-aB.o,<-aC.o];refine qZc (S:=fun W=>W.cell? ⟨q,0,none⟩=some (.pointer (some ⟨j,0,none⟩))/\W.cell? ⟨j,0,none⟩=some (.pointer (some ⟨d,0,none⟩))/\W.cell? ⟨j,1,none⟩=some (.int .i64 (base:Int))/\W.cell? ⟨j,2,none⟩=some (.int .i64 (n:Int))/\W.cell? ⟨m,0,none⟩=some (.int .i64 (s:Int))/\W.rangeAt m 1 (bkC y)) kR (by(simp only[qYi,qYk]);exact⟨af,aa,ab,ad,Q,U⟩) (fun ak=>?_);refine Wl.i [0,1,2,3,4,5,6,7,8,9,10,11,12,13,14,15,16,17] ?_;iterate 18 refine Wl.t ak ?_
 refine Wl.o ?_;refine Wl.l 18 (fun w h=>h.2.2.2.2.2) ay az ak ?_;refine Wl.r 19 (fun K E=>?_);go_simp
 refine(vO k.o.1 k.o.2.1 L k.o.2.2.1 y k.o.2.2.2.1 k.o.2.2.2.2.1).mono ?_;rintro e aI ⟨rfl,am,Y⟩;have b:=Y3 am (((uur (fun a=>T a/\a≠m) w1).drew).trans Y) (k.o.2.2.2.2.2.trans (Y.mono (fun a _ h=>h.1)));clear am Y;have p:∀a,(T a/\a≠m)->¬a=j:=fun a M e=>aj.o.1 (e▸M.1);have G:∀a,(T a/\a≠m)->¬a=q:=fun a M e=>aj.o.2 (e▸M.1);refine E.o _ _ (⟨b.o.2.1.j3 af (fun h=>G _ h rfl),b.o.2.1.j3 aa (fun h=>p _ h rfl),b.o.2.1.j3 ab (fun h=>p _ h rfl),b.o.2.1.j3 ad (fun h=>p _ h rfl),b.o.2.1.j3 Q (fun h=>h.2 rfl),b.o.2.1.range U (fun h=>h.2 rfl)⟩) (fun aD=>?_);clear E K;refine Wl.r 20 (fun K E=>?_);go_simp
 refine E.o _ _ (aD) (fun aJ=>?_);clear E K;refine Wl.d ?_;go_wp2
 go_ret
 exact⟨rfl,b.o.1.wide (fun a h=>h.1),b.o.2.2⟩
def comW(base n:Nat)(F:List Bk):List (Nat×Bk)->List (Nat×Bk)->List Int->DRes
 |[],O,P=>⟨F,O,P,0⟩
 |(s,y)::W,O,P=>if(writeR F O P (base+(s-1)%n) y).cd=0 then comW base n F W (writeR F O P (base+(s-1)%n) y).O (writeR F O P (base+(s-1)%n) y).P else writeR F O P (base+(s-1)%n) y
theorem yo(F:List Bk)(O:List (Nat×Bk))(P:List Int)(s:Nat)(y:Bk):(writeR F O P s y).F=F:=by
 unfold writeR;split;rfl;split<;>rfl
theorem wu(F:List Bk)(O:List (Nat×Bk))(P:List Int)(s:Nat)(y:Bk):(writeR F O P s y).O.length<=O.length+1:=by
 unfold writeR;split;simp;split<;>simp
theorem Sz(F:List Bk)(O:List (Nat×Bk))(P:List Int):(flushR F O P).O.length<=O.length:=by
 unfold flushR;split;simp;split<;>simp
theorem Vy(base n:Nat)(F:List Bk):∀(W O:List (Nat×Bk)) (P:List Int),(comW base n F W O P).F=F
 |[],_,_=>rfl
 |(s,y)::W,O,P=>by
  unfold comW;split
  .exact Vy base n F W _ _
  .exact yo _ _ _ _ _
theorem Vz(base n:Nat)(F:List Bk):∀(W O:List (Nat×Bk)) (P:List Int),(comW base n F W O P).O.length<=O.length+W.length
 |[],_,_=>by simp[comW]
 |(s,y)::W,O,P=>by
  have h1:=wu F O P (base+(s-1)%n) y;unfold comW;split
  .have:=Vz base n F W (writeR F O P (base+(s-1)%n) y).O (writeR F O P (base+(s-1)%n) y).P;simp only[qza];omega
  .simp only[qza];omega
abbrev zgu(g0:Nat):Value:=.func (.func 246) #[] #[.pointer (some ⟨g0,0,none⟩)]
theorem zci(h:JnAt w j vw d base n cov next W)(h1:∀an∈W,1<=an.1){a8:Nat}(J:w.cell? ⟨a8,0,none⟩=some (.pointer (some ⟨j,0,none⟩)))
     (k:Dv T w d F O P) (L:∀a,w.heap.size<=a->T a) (A:∀a,jnS j vw a->¬T a) (D:¬T a8) (M:base+n<=F.length) (X:O.length+W.length<=65536):
  Calls prog 245 #[vw,zgu a8] w (Am T w d (comW base n F W O P)):=by
 obtain⟨au,c,rfl⟩:=h.ws.rd.j6;have ah:=Y9 h h1 J L A D M X k;clear h h1 J L A D M X k;go_enter func245,ntmps245
 go_wp2
 go_step3
 go_wp2
 go_step3
 go_wp2
 go_loopw[5,10] (fun ao aa wr=>∃a q E,a<=W.length/\ao=.int .i64 0/\aa=.int .i64 (a:Int)/\Dv T wr d F q E/\Upd T w wr/\comW base n F W O P=comW base n F (W.drop a) q E/\q.length<=O.length+a) (fun _ aa _=>W.length-(intOf aa).toNat)
 case atStart=>exact⟨0,O,P,qXz _,rfl,rfl,ah.o.2.2.2.2.2.2.2.2,uur _ _,rfl,qXp _⟩
 case round=>
  obtain⟨a,q,E,s,rfl,rfl,k,v,b,N⟩:=hrel;by_cases hlt:a<W.length
  .obtain ⟨h,h1,J,L,A,D,M,X,-⟩:=ah.o;have ab:=h.keep v A;obtain⟨g,av,aw,ap,aq,ar,ad⟩:=ab.range hlt;cases ap;have ae:=h1 W[a] (qyv hlt);have ax:W.length<=65536:=oM;have af:=h.good.lt W[a] (qyv hlt);have G:=h.good.w64 W[a] (qyv hlt);have ai:W.drop a=(W[a].1,W[a].2)::W.drop (a+1):=qya hlt;have ay:(0:Int)<=(a:Int):=oM;have az:(a:Int)<(W.length:Int):=oM;rw[ai,comW]at b;obtain⟨H,ag⟩:=qqe (W[a].1);obtain⟨y,hy⟩:=qqe (W[a].2);rw[<-ag,<-hy]at ad b;rw[<-ag]at ae af;rw[<-hy]at G;have Y:Upd (fun _=>False) wr (wr.alloc (.cells (wrC (H:Int) y).toArray 365)):=(uur _ _).alloc _;have aj:=zg (zc wr (.cells (wrC (H:Int) y).toArray 365) rfl);have p:=v.trans (Y.mono fE);have ak:=zeK (ab.new Y) (p.j3 J D) (k.keep Y (fun _ _ h=>h)) (fun a s=>L a (qXr p.size s)) (A j (.inl rfl)) D H ae af y G M oM;have Q:=yo F q E (base+(H-1)%n) y;have Z:=wu F q E (base+(H-1)%n) y;generalize writeR F q E (base+(H-1)%n) y=r at*;have U:=Y7 ak p Q Z b N s;clear h ab h1 J L A D M X v k ak p Q Z b N ag hy ai ae af aq ar Y s;go_wp2_with (first
    |refine qYz rfl _ _ rfl _ _ rfl _ _ ad underlying365 rfl (uz _ _ G) ?_
    |refine qYz rfl _ _ rfl _ _ rfl _ _ aj underlying365 rfl (uz _ _ G) ?_
    |(refine zk rfl _ _ _ rfl _ _ _ rfl rfl (by rw[qR,wrC_len,G]) (uz _ _ G) (uM _ _) ?_)
    |fail)
   refine U.o.1.mono ?_;rintro e aA ⟨rfl,V,am⟩;have a6:=Y2 V am;clear V am ad aj;by_cases a7:r.cd=0
   .rw [a7];go_wp2
    go_roundw
    case rel=>
     obtain⟨-,p,Q,Z,b,N,s⟩:=U.o;have V:=a6.o.1;rw[Q]at V;rw[if_pos a7]at b;exact⟨a+1,r.O,r.P,oM,rfl,by go_num,V,p.trans a6.o.2,b,oM⟩
    case measure=>simp[intOf];omega
   .have aB:(r.cd==0)=false:=by simpa using a7
    go_wp2
    go_ret
    obtain⟨-,p,Q,Z,b,N,s⟩:=U.o;rw[if_neg a7]at b;rw[b];exact⟨rfl,a6.o.1,p.trans a6.o.2⟩
  .obtain rfl:a=W.length:=oM;have U:=Y3 k v b;clear k v b s N;go_wp2
   go_ret
   obtain⟨k,v,b⟩:=U.o;rw[b,List.drop_length];exact⟨rfl,k,v⟩
def comR(base n:Nat)(F:List Bk)(O:List (Nat×Bk))(P:List Int)(W:List (Nat×Bk)):DRes×List (Nat×Bk):=
 if(flushR F O P).cd≠0\/W=[]then(flushR F O P,W)
 else if(comW base n (flushR F O P).F W (flushR F O P).O (flushR F O P).P).cd≠0 then(comW base n (flushR F O P).F W (flushR F O P).O (flushR F O P).P,W)
 else if(flushR (comW base n (flushR F O P).F W (flushR F O P).O (flushR F O P).P).F (comW base n (flushR F O P).F W (flushR F O P).O (flushR F O P).P).O (comW base n (flushR F O P).F W (flushR F O P).O (flushR F O P).P).P).cd≠0 then
  (flushR (comW base n (flushR F O P).F W (flushR F O P).O (flushR F O P).P).F (comW base n (flushR F O P).F W (flushR F O P).O (flushR F O P).P).O (comW base n (flushR F O P).F W (flushR F O P).O (flushR F O P).P).P,W)
 else(flushR (comW base n (flushR F O P).F W (flushR F O P).O (flushR F O P).P).F (comW base n (flushR F O P).F W (flushR F O P).O (flushR F O P).P).O (comW base n (flushR F O P).F W (flushR F O P).O (flushR F O P).P).P,[])
theorem rW(F:List Bk)(O:List (Nat×Bk))(P:List Int):(flushR F O P).F.length=F.length:=by
 unfold flushR;split;rfl;split;exact zI _ _;rfl
def zcj(T:Nat->Prop)(w:World)(j:Nat)(vw:Value)(d base n cov next:Nat)(r:DRes×List (Nat×Bk))(e:Ending)(w':World):Prop:=
 e=.returned (.int .i64 r.1.cd)/\Dv T w' d r.1.F r.1.O r.1.P/\(∃vw',JnAt w' j vw' d base n cov next r.2/\(vw'=vw\/vw'.ownBlock=none))/\Upd (fun k=>T k\/k=j) w w'
theorem AQ(h:JnAt w j vw d base n cov next W)(h1:∀aM∈W,1<=aM.1)
     (aq:Dv T w d F O P) (ar:∀a,w.heap.size<=a->T a) (H:∀a,jnS j vw a->¬T a) (L:base+n<=F.length) (M:O.length+W.length<=65536):
  Calls prog 179 #[.pointer (some ⟨j,0,none⟩)] w (zcj T w j vw d base n cov next (comR base n F O P W)):=by
 have aX:=qqf;obtain⟨aN,c,rfl⟩:=h.ws.rd.j6;obtain⟨w1,a7⟩:=qqe (w.alloc (.cells #[.pointer (some ⟨j,0,none⟩)] 163));have p:=qqu a7;have E:=qqg a7;obtain⟨m,s⟩:=qqe (w.heap.size);have N:w1.heap.size=m+1:=by rw[a7,s];simp
 have au:Dv (fun a=>T a/\a≠m) w1 d F O P:=(aq.but oM).keep p (fun _ _ h=>h);have v:∀a,w1.heap.size<=a->T a/\a≠m:=fun a Q=>⟨ar a oM,oM⟩
 have G:=h.new p;have an:=za E 0;rw[<-s]at an E;obtain⟨av,-,-,-,-,aO⟩:=G.c;have aw:=qqh (xT au v);have k:∀a,jnS j (.slice aN W.length c) a->¬(T a/\a≠m):=fun a Q aP=>H a Q aP.1;have ab:=Y11 G h1 v k L M p E s N H;have ax:=av;rw[a7]at ax;have aQ:=qqh a7;have aR:=qqh s;clear h h1 aq ar H L M p au v G E k a7 s N;have ay:w1.cell? ⟨m,0,none⟩=some (.pointer (some ⟨j,0,none⟩)):=an;go_enter func179,ntmps179
 go_wp2_with fail
 rw[<-aQ.o,<-aR.o];clear ax;refine aw.o.mono ?_;rintro e aY ⟨rfl,J,q⟩;obtain⟨G,h1,v,k,L,M,p,E,s,N,H⟩:=ab.o;have U:=rW F O P;have V:=Sz F O P;have b:comR base n F O P W=comR base n F O P W:=rfl
 conv at b=>rhs;unfold comR
 generalize comR base n F O P W=R at*;generalize flushR F O P=r at*;have A:=G.keep q k;have ao:=q.j3 ay (fun h=>h.2 rfl);obtain⟨aS,-,-,-,-,az⟩:=A.c;have ai:=Y6 J q A U V b;clear G h1 v k L M p E s N H U V b A J q aw av aO an ay;by_cases ad:r.cd=0
 .have aA:=qqh ad;rw[ad];clear ad;by_cases Y:W.length=0
  .have ap:=qqh Y;rw[Y]at az;clear Y;go_wp2
   go_ret
   obtain⟨J,q,A,U,V,b⟩:=ai.o;rw[if_pos (Or.inr (List.length_eq_zero_iff.1 ap.out))]at b;subst b;refine⟨by rw[aA.out];rfl,J.wide (fun a h=>h.1),⟨_,A,.inl rfl⟩,?_⟩;obtain⟨G,h1,v,k,L,M,p,E,s,N,H⟩:=ab.o;exact(p.mono fE).trans (q.mono (fun a _ h=> .inl h.1))
  .have ap:=qqh Y;obtain⟨J,q,A,U,V,b⟩:=ai.o;obtain⟨G,h1,v,k,L,M,p,E,s,N,H⟩:=ab.o;have aB:=qqh (zci A h1 ao J (fun a Q=>v a (qXr q.size Q)) k (fun h=>h.2 rfl) oM oM);rw[if_neg (fun e=>e.elim (fun h=>h aA.out) (fun h=>Y (by simp[h])))]at b;have aj:=Vy base n r.F W r.O r.P;have ak:=Vz base n r.F W r.O r.P;generalize comW base n r.F W r.O r.P=ae at*;have aC:=Y3 b aj ak;clear b aj ak G h1 v k L M p E s N H J q A U V Y;have Y:=ap.out;go_wp2_with fail
   refine aB.o.mono ?_;rintro e aT ⟨rfl,Z,af⟩;obtain⟨J,q,A,U,V,-⟩:=ai.o;obtain⟨G,h1,v,k,L,M,p,E,s,N,H⟩:=ab.o;have X:=A.keep af k;have aD:=af.j3 ao (fun h=>h.2 rfl);obtain⟨aU,-,-,-,-,aV⟩:=X.c;have aE:=qqh (xT Z (fun a Q=>v a (qXr (qXr q.size af.size) Q)));have a6:Upd (fun a=>T a\/a=j) w aT:=((p.mono fE).trans (q.mono (fun a _ h=> .inl h.1))).trans (af.mono (fun a _ h=> .inl h.1));have aF:=Y4 Z X a6 k;clear G h1 v k L M p E s N H J q A U V Z af X a6 aS az ao aB;by_cases ag:ae.cd=0
   .have aW:=qqh ag;rw[ag];clear ag;go_wp2_with fail
    refine aE.o.mono ?_;rintro e aG ⟨rfl,a8,am⟩;obtain⟨b,aj,ak⟩:=aC.o;obtain⟨Z,X,a6,k⟩:=aF.o;rw[if_neg (fun e=>e aW.out)]at b;generalize flushR ae.F ae.O ae.P=aH at*;have D:=X.keep am k;have aZ:=am.j3 aD (fun h=>h.2 rfl);have z5:=D.fz 5;obtain⟨-,-,-,-,-,b0⟩:=D.c;have aa:Upd (fun a=>T a\/a=j) w aG:=a6.trans (am.mono (fun a _ h=> .inl h.1));have aI:=Y5 b a8 D aa k;clear b aj ak Z X a6 k a8 am D aa aU aV aD aE;by_cases ah:aH.cd=0
    .have aJ:=qqh ah;rw[ah];clear ah;go_wp2
     go_ret
     obtain⟨b,a8,D,aa,k⟩:=aI.o;rw[if_neg (fun e=>e aJ.out)]at b;subst b;have aK:=zi aG j 5 (.slice none 0 0);refine⟨by rw[aJ.out];rfl,(a8.keep aK (fun a Q e=>k a (.inl e) Q)).wide (fun a h=>h.1),⟨.slice none 0 0,⟨(zh D.str 5 _).trans oe,Sl.nil _ _ _,by simp[Value.ownBlock],⟨oe,oe,D.good.n1,by have:=D.good.wl;simp;omega,D.good.room,D.good.mx,D.good.bs⟩⟩,.inr rfl⟩,aa.trans (aK.mono (fun a _ e=> .inr e))⟩
    .have aL:(aH.cd==0)=false:=by simpa using ah
     go_wp2
     go_ret
     obtain⟨b,a8,D,aa,k⟩:=aI.o;rw[if_pos ah]at b;subst b;exact⟨rfl,a8.wide (fun a h=>h.1),⟨_,D,.inl rfl⟩,aa⟩
   .have aL:(ae.cd==0)=false:=by simpa using ag
    go_wp2
    go_ret
    obtain⟨b,-⟩:=aC.o;obtain⟨Z,X,a6,k⟩:=aF.o;rw[if_pos ag]at b;subst b;exact⟨rfl,Z.wide (fun a h=>h.1),⟨_,X,.inl rfl⟩,a6⟩
 .have aL:(r.cd==0)=false:=by simpa using ad
  go_wp2
  go_ret
  obtain⟨J,q,A,U,V,b⟩:=ai.o;rw[if_pos (Or.inl ad)]at b;subst b;refine⟨rfl,J.wide (fun a h=>h.1),⟨_,A,.inl rfl⟩,?_⟩;obtain⟨G,h1,v,k,L,M,p,E,s,N,H⟩:=ab.o;exact(p.mono fE).trans (q.mono (fun a _ h=> .inl h.1))
end Go.Proofs.YtpejdgiccaijfaaGreatDoor
