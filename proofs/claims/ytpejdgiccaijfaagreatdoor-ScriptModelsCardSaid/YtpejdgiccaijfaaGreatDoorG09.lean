/- A journal in m -/
import Derived.Test.YtpejdgiccaijfaaGreatDoorG02
import Derived.Test.YtpejdgiccaijfaaGreatDoorG04
import Derived.Lib.SliceRun
set_option maxRecDepth 100000
set_option maxHeartbeats 1000000
namespace Go.Proofs.YtpejdgiccaijfaaGreatDoor
open Go Go.RowKit Tryz
structure JnGood(base n cov next:Nat)(W:List (Nat×Bk)):Prop where
 w64:∀p∈W,p.2.length=64
 lt:∀p∈W,p.1<next
 n1:1<=n/\n<=1024
 wl:W.length+cov+1<=next
 room:next<=cov+n+1
 mx:next<=1099511627777
 bs:base<=4096
structure JnAt(w:World)(j:Nat)(vw:Value)(d base n cov next:Nat)(W:List (Nat×Bk)):Prop where
 str:w.heap[j]?=some (.cells #[.pointer (some ⟨d,0,none⟩),.int .i64 base,.int .i64 n,.int .i64 cov,.int .i64 next,vw] 319 (0,0))
 ws:Sl w 365 65 vw W.length (SY W)
 wb:vw.ownBlock≠some j
 good:JnGood base n cov next W
def Al(j:Nat)(vw:Value):Nat->Prop:=fun k=>k=j\/vw.ownBlock=some k
section
variable{w w':World}{j d base n cov next:Nat}{vw:Value}{W:List (Nat×Bk)}
theorem JnAt.keep(h:JnAt w j vw d base n cov next W){S:Nat->Prop}(hu:Upd S w w')(hs:∀k,Al j vw k->¬S k):JnAt w' j vw d base n cov next W:=
 {h with
  str:=(hu.block _ (zd h.str) (hs j (.inl rfl))).trans h.str
  ws:=h.ws.keep hu (fun g hg=>hs g (.inr hg))}
theorem JnAt.new(h:JnAt w j vw d base n cov next W)(hu:Upd (fun _=>False) w w'):JnAt w' j vw d base n cov next W:=h.keep hu (fun _ _ h=>h)
theorem JnAt.slt(h:JnAt w j vw d base n cov next W):∀k,Al j vw k->k<w.heap.size:=by
 rintro k (rfl|hk)
 .exact zd h.str
 .exact h.ws.lt hk
theorem JnAt.c(h:JnAt w j vw d base n cov next W):w.cell? ⟨j,0,none⟩=some (.pointer (some ⟨d,0,none⟩))/\w.cell? ⟨j,1,none⟩=some (.int .i64 base)/\w.cell? ⟨j,2,none⟩=some (.int .i64 n)/\
  w.cell? ⟨j,3,none⟩=some (.int .i64 cov)/\w.cell? ⟨j,4,none⟩=some (.int .i64 next)/\w.cell? ⟨j,5,none⟩=some vw:=by
 refine⟨?_,?_,?_,?_,?_,?_⟩<;>rw[za h.str]<;>rfl
theorem JnAt.fz(h:JnAt w j vw d base n cov next W)(i:Nat):w.frozen? ⟨j,i,none⟩=false:=zf h.str i
structure WtAt(w:World)(vw:Value)(next:Nat)(W:List (Nat×Bk)):Prop where
 ws:Sl w 365 65 vw W.length (SY W)
 w64:∀p∈W,p.2.length=64
 lt:∀p∈W,p.1<next
 wl:W.length+1<=next
 mx:next<=1099511627777
theorem JnAt.wt(h:JnAt w j vw d base n cov next W):WtAt w vw next W:=⟨h.ws,h.good.w64,h.good.lt,by have:=h.good.wl;omega,h.good.mx⟩
theorem WtAt.keep(h:WtAt w vw next W){S:Nat->Prop}(hu:Upd S w w')(hs:∀k,vw.ownBlock=some k->¬S k):WtAt w' vw next W:={h with ws:=h.ws.keep hu hs}
theorem WtAt.new(h:WtAt w vw next W)(hu:Upd (fun _=>False) w w'):WtAt w' vw next W:=h.keep hu (fun _ _ h=>h)
theorem WtAt.range(h:WtAt w vw next W){k:Nat}(hk:k<W.length):∃g off cap,vw=.slice (some ⟨g,off,none⟩) W.length cap/\g<w.heap.size/\W.length<=cap/\w.rangeAt g (off+k*65) (wrC W[k].1 W[k].2):=by
 obtain⟨hl,⟨_,h0⟩|⟨g,off,cap,cur,rfl,hg,hn,hm,hs,hc⟩⟩:=h.ws
 .omega
 .refine ⟨g,off,cap,rfl,zd hg,hn,fun j v hj=>?_⟩;have hj':=(qyl.1 hj).1;rw[wrC_len,h.w64 _ (qyu hk)]at hj';rw[za hg,qXl];exact hc _ _ (by rw[Qf h.w64 hk hj'];exact hj)
theorem JnAt.range(h:JnAt w j vw d base n cov next W){k:Nat}(hk:k<W.length):∃g off cap,vw=.slice (some ⟨g,off,none⟩) W.length cap/\g<w.heap.size/\W.length<=cap/\w.rangeAt g (off+k*65) (wrC W[k].1 W[k].2):=h.wt.range hk
end
def Jn(S:Nat->Prop)(w:World)(j d base n cov next:Nat)(W:List (Nat×Bk)):Prop:=∃vw,JnAt w j vw d base n cov next W/\∀k,Al j vw k->S k
theorem Jn.kB(j d base n cov next:Nat)(W:List (Nat×Bk)):Thing (fun S w=>Jn S w j d base n cov next W)where
 keep:=fun h hu hs=>by
  obtain⟨v,h,hS⟩:=h;exact⟨v,h.keep hu (fun j hj=>hs j (hS j hj)),hS⟩
 out:=fun h hs=>by
  obtain⟨v,h,hS⟩:=h;exact⟨v,h,fun j hj=>hs j (h.slt j hj) (hS j hj)⟩
theorem Jn.good{S:Nat->Prop}{w:World}{j d base n cov next:Nat}{W:List (Nat×Bk)}(h:Jn S w j d base n cov next W):JnGood base n cov next W:=by obtain⟨v,h,-⟩:=h;exact h.good
theorem UZ{S:Nat->Prop}{w:World}{j d base n cov next:Nat}{W:List (Nat×Bk)}(h:Jn S w j d base n cov next W):
  Calls prog 165 #[.pointer (some ⟨j,0,none⟩)] w fun e w'=>e=.returned (.int .i64 (next:Int))/\w=w':=by
 obtain⟨v,h,-⟩:=h;obtain⟨c0,c1,c2,c3,c4,c5⟩:=h.c;exact zbY w j d base n cov next ⟨c0,c1,c2,c3,c4⟩
theorem QG{S:Nat->Prop}{T:Nat->Prop}{w:World}{b:Nat}{F:List Bk}{O:List (Nat×Bk)}{P:List Int}(h:Dv T w b F O P)(hn:∀j,w.heap.size<=j->S j)(base n seq:Nat)(h1:1<=n)(h2:n<=1024)(h3:base+n<=F.length)(h5:seq<1099511627776):
  Calls prog 139 #[.pointer (some ⟨b,0,none⟩),.int .i64 (base:Int),.int .i64 (n:Int),.int .i64 (seq:Int)] w fun e w'=>∃j,e=.returned (.tuple #[.pointer (some ⟨j,0,none⟩),.int .i64 0])/\
   Jn S w' j b base n seq (seq+1) []/\w.heap.size<=j/\Below w.heap.size w w':=by
 have h4:=h.good.fl;have q1:decide ((seq:Int)<0)=false:=oe;have q2:decide ((seq:Int)>=1099511627776)=false:=by simp;omega
 have hs:¬(1099511627776<=(seq:Int)):=oM;go_enter func139,ntmps139
 go_wp2_with (first
  |(go_at_call 200;refine(Vh h base n h1 h2 h3 h4).mono ?_;rintro e w' ⟨rfl,rfl⟩)
  |fail)
 go_ret2
 have hb:=zc w (.cells #[.pointer (some ⟨b,0,none⟩),.int .i64 (base:Int),.int .i64 (n:Int),.int .i64 (seq:Int),.int .i64 ((seq:Int)+1),.slice none 0 0] 319) rfl;refine⟨w.heap.size,rfl,⟨.slice none 0 0,⟨?_,Sl.nil _ _ _,by simp[Value.ownBlock],⟨oe,oe,⟨h1,h2⟩,oe,oM,oM,oM⟩⟩,?_⟩,qXo _,(qxl _ w).alloc (qXo _) _⟩
 .rw [hb];simp
 .rintro k (rfl|hk)
  .exact hn _ (qXo _)
  .cases hk
theorem AN:(prog.info? 365).map (·.size)=some 65:=kR
theorem vP(s:Int)(x:Bk)(hx:x.length=64):(prog.info? 365).map (·.size)=some (wrC s x).length:=by
 rw[AN,wrC_len,hx]
theorem tT:Tryz.zeroCells365.size=65:=kR
theorem Am(w:World)(q:Nat)(s:Int)(hq:w.cell? ⟨q,0,none⟩=some (.int .i64 s))(x:Nat)(y:Bk)(hx:(x:Int)<=s):
  Calls prog 231 #[.agg (wrC (x:Int) y).toArray,.pointer (some ⟨q,0,none⟩)] w fun e w'=>e=.returned (.bool true)/\Below w.heap.size w w':=by
 have hqb:q<w.heap.size:=(zJ hq).2;obtain⟨L,hL⟩:=qqe ((wrC (x:Int) y).toArray);have h0:L[0]?=some (.int .i64 (x:Int)):=by rw[hL];rfl
 have q1:decide ((x:Int)<=s)=true:=by simpa using hx
 have hq1:(w.alloc (.cells L 365)).cell? ⟨q,0,none⟩=some (.int .i64 s):=zl hq _;have hc:(w.alloc (.cells L 365)).cell? ⟨w.heap.size,0,none⟩=some (.int .i64 (x:Int)):=(za (zc w _ rfl) 0).trans h0;rw[<-hL];clear hL hq;go_enter func231,ntmps231
 go_wp2
 go_ret
 exact⟨rfl,(qxl _ _).alloc (qXo _) _⟩
theorem AO:(prog.info? 365).map (fun i=>(i.zero.map (fun z=>(z.cells.size,z.cells.all (·.oneCell'))),i.size))=some (some (65,true),65):=kR
theorem Zr:∃i z,prog.info? 365=some i/\i.zero=some z/\z.cells.size=65/\z.cells.all (·.oneCell')=true/\i.size=65:=by
 obtain⟨i,hi,h⟩:=qYb.1 AO;simp only[qYd]at h;obtain⟨h1,h2⟩:=h;obtain⟨z,hz,hs⟩:=qYb.1 h1;simp only[qYd]at hs;exact⟨i,z,hi,hz,hs.1,hs.2,h2⟩
theorem Zs{w:World}{g off n cap:Nat}{cur:Array Value}(hg:w.heap[g]?=some (.cells cur 365 (0,0)))(hs:off+n*65<=cur.size)(hn:0<n):
  ∃w',(∀ty,(Builtin.clear_ #[317] ty #[.slice (some ⟨g,off,none⟩) n cap]).run prog w=.ok (.tuple #[]) w')/\Upd (fun j=>j=g) w w'/\
   ∃cur',w'.heap[g]?=some (.cells cur' 365 (0,0))/\cur'.size=cur.size:=by
 obtain⟨i,z,hi,hz,hzs,hz1,hsz⟩:=Zr;have hlen:(Builtin.zeroCells z.cells n).toList.length=n*65:=by simp[Builtin.zeroCells,hzs]
 have h1:∀v∈(Builtin.zeroCells z.cells n).toList,v.oneCell'=true:=by
  intro v hv;simp only[Builtin.zeroCells,Array.toList_map,qzq]at hv;obtain⟨k,hk,rfl⟩:=hv;have:k%z.cells.size<z.cells.size:=qXt _ oM;rw[getElem!_pos z.cells (k%z.cells.size) this];exact Array.all_eq_true.1 hz1 _ this
 have hst:=run_storeCells_cells (P:=prog) g off (Builtin.zeroCells z.cells n).toList 0 w
  (fun j hj=>by rw[hlen]at hj;rw[za hg,qXm,qxe oM];rfl) (fun j hj=>zf hg _) h1
 simp only[qXm]at hst;obtain⟨cur',h2,h3,-⟩:=zy (Builtin.zeroCells z.cells n).toList off w g cur _ _ hg;have hzr:∀w,(zeroValue 365).run prog w=.ok z w:=fun w=>by simp[zeroValue,typeInfo,hi,hz]
 refine⟨_,fun ty=>?_,yi _ w g off _ rfl,cur',h2,h3⟩;obtain⟨m,rfl⟩:∃m,n=m+1:=⟨n-1,oM⟩
 simp[Builtin.clear_,run_underlying underlying317,hzr,hst]
abbrev zco(q:Nat):Value:=.func (.func 231) #[] #[.pointer (some ⟨q,0,none⟩)]
theorem zdM{w:World}{next:Nat}{vw:Value}{W:List (Nat×Bk)}(h:WtAt w vw next W)(q:Nat)(s:Int)(hq:w.cell? ⟨q,0,none⟩=some (.int .i64 s))(hs:s=(next:Int)-1):
  Calls prog 300 #[vw,zco q] w fun e w'=>e=.returned (.int .i64 (if W=[]then-1 else 0))/\Below w.heap.size w w':=by
 by_cases h0:W=[]
 .subst h0;rw[if_pos rfl];obtain⟨ao,c,rfl⟩:=h.ws.rd.jU;clear h;go_enter func300,ntmps300
  go_wp2
  go_loop [8] (fun i=>i=.int .i64 0) (fun _=>0)
  case atStart=>rfl
  case round=>
   subst hrel;go_wp2
   go_ret
   exact⟨rfl,qxl _ _⟩
 .rw [if_neg h0];have hl:0<W.length:=by cases W with|nil=>exact absurd rfl h0|cons a l=>simp
  obtain⟨g,off,cap,rfl,hgl,hcap,hr⟩:=h.range hl;have hlt:=h.lt W[0] (qyu hl);have h64:=h.w64 W[0] (qyu hl);have hwl:=h.wl;have hmx:=h.mx;rw[qXz,qXm]at hr;have b1:(0:Int)<(W.length:Int):=oM;have hc:=Am w q s hq W[0].1 W[0].2 oM;generalize W[0].1=x at*;generalize W[0].2=y at*;have HC:=qqh hc;clear h h0 hc hs hq hlt;generalize W.length=m at*;go_enter func300,ntmps300
  go_wp2
  go_loop [8] (fun i=>i=.int .i64 0) (fun _=>0)
  case atStart=>rfl
  case round=>
   subst hrel;go_wp2_with (first
    |refine qYy rfl _ _ rfl _ _ rfl _ _ hr underlying365 rfl (vP _ _ h64) ?_
    |fail)
   refine HC.o.mono ?_;rintro e w' ⟨rfl,hb⟩;go_wp2
   go_ret
   exact⟨rfl,hb⟩
def JA(w:World)(vw:Value)(e:Ending)(w':World):Prop:=∃v',e=.returned v'/\Sl w' 365 65 v' 0 []/\v'.ownBlock=vw.ownBlock/\Upd (fun k=>vw.ownBlock=some k) w w'
theorem zdN{w:World}{next:Nat}{vw:Value}{W:List (Nat×Bk)}(h:WtAt w vw next W)(q:Nat)(s:Int)(hq:w.cell? ⟨q,0,none⟩=some (.int .i64 s))(hqn:vw.ownBlock≠some q)(hs:s=(next:Int)-1):
  Calls prog 230 #[vw,zco q] w (JA w vw):=by
 have HI:=qqh (zdM h q s hq hs);by_cases h0:W=[]
 .subst h0;rw[if_pos rfl]at HI;have HH:=qqh h;clear h hq hs hqn;go_enter func230,ntmps230
  go_wp2_with fail
  refine HI.o.mono ?_;rintro e w' ⟨rfl,hb⟩;go_wp2
  go_ret
  exact⟨vw,rfl,(HH.o.new (uuo hb)).ws,rfl,(uuo hb)⟩
 .rw [if_neg h0]at HI;have hl:0<W.length:=by cases W with|nil=>exact absurd rfl h0|cons a l=>simp
  obtain⟨-,⟨_,h2⟩|⟨g,off,cap,cur,rfl,hg,hcap,hcm,hsz,-⟩⟩:=h.ws
  .omega
  unfold maxLen at hcm;have hwl:=h.wl;have hmx:=h.mx;have HH:=Y6 h hq hs hg hsz hqn;clear h hq hs h0 hg hsz hqn;go_enter func230,ntmps230
  go_wp2_with fail
  refine HI.o.mono ?_;rintro e w1 ⟨rfl,hb⟩;have hu1:=qqb hb;clear hb;go_wp2
  go_loopw[5,6] (fun s5 s6 wr=>∃k:Nat,1<=k/\k<=W.length/\s5=.int .i64 0/\s6=.int .i64 k/\Upd (fun _=>False) w wr) (fun _ s6 _=>W.length-(intOf s6).toNat)
  case atStart=>exact⟨1,oM,oM,rfl,rfl,hu1⟩
  case round=>
   obtain⟨k,hk1,hk,rfl,rfl,hu⟩:=hrel;by_cases hlt:k<W.length
   .obtain ⟨h,hq,hs,hg,hsz,hqn⟩:=HH.o;obtain⟨g',off',cap',e1,hgl,hcap',hr⟩:=(h.new hu).range hlt;cases e1;have hlw:=h.lt W[k] (qyu hlt);have h64:=h.w64 W[k] (qyu hlt);have b1:(0:Int)<=(k:Int):=oM;have b2:(k:Int)<(W.length:Int):=oM;have hqw:wr.cell? ⟨q,0,none⟩=some (.int .i64 s):=hu.jS hq id;have hu2:Upd (fun _=>False) w (wr.alloc (.cells (wrC (W[k].1:Int) W[k].2).toArray 365)):=hu.alloc _;have hr2:=zg (zc wr (.cells (wrC (W[k].1:Int) W[k].2).toArray 365) rfl);have hc:=Am (wr.alloc (.cells (wrC (W[k].1:Int) W[k].2).toArray 365)) q s (zl hqw _) W[k].1 W[k].2 oM;generalize W[k].1=x at*;generalize W[k].2=y at*;have HC:=Y2 hc hu2;clear h hc hs hq hlw hu hg hsz hqn hqw hu2;go_wp2_with (first
     |refine qYy rfl _ _ rfl _ _ rfl _ _ hr underlying365 rfl (vP _ _ h64) ?_
     |refine qYy rfl _ _ rfl _ _ rfl _ _ hr2 underlying365 rfl (vP _ _ h64) ?_
     |(refine zk rfl _ _ _ rfl _ _ _ rfl rfl (by rw[tT,wrC_len,h64]) (vP _ _ h64) (vU _ _) ?_)
     |fail)
    refine HC.o.1.mono ?_;rintro e w3 ⟨rfl,hb3⟩;have hu3:Upd (fun _=>False) w w3:=HC.o.2.trans (uuo hb3);clear hb3;go_wp2
    go_roundw
    case rel=>exact⟨k+1,oM,oM,rfl,by go_num,hu3⟩
    case measure=>simp[intOf];omega
   .obtain rfl:k=W.length:=oM;obtain⟨h,hq,hs,hg,hsz,hqn⟩:=HH.o;have hg2:=(hu.block _ (zd hg) id).trans hg;have hle:=qXu 65 hcap;obtain⟨w3,hrun,hu3,cur3,hg3,hz3⟩:=Zs (off:=off) (n:=W.length) (cap:=cap) hg2 oM hl;have HF:=Y5 hu hu3 hg3 hz3 hsz;clear h hq hs hg hsz hqn hu hu3 hg3 hg2 hz3 hle;go_wp2
    go_ret
    refine⟨_,rfl,⟨oe,.inr ⟨g,off,cap,cur3,rfl,HF.o.2.2.1,oM,by unfold maxLen;omega,by rw[HF.o.2.2.2.1];exact HF.o.2.2.2.2,oe⟩⟩,rfl,(HF.o.1.mono fE).trans (HF.o.2.1.mono (fun k _ e=>by simp[Value.ownBlock,e]))⟩
def JB(S:Nat->Prop)(w:World)(j d base n next:Nat)(e:Ending)(w':World):Prop:=e=.returned (.int .i64 0)/\Jn S w' j d base n (next-1) next []/\Upd S w w'
theorem AP{S:Nat->Prop}{w:World}{j d base n cov next:Nat}{W:List (Nat×Bk)}(h:Jn S w j d base n cov next W)(s:Int)(hs:s=(next:Int)-1):
  Calls prog 166 #[.pointer (some ⟨j,0,none⟩),.int .i64 s] w (JB S w j d base n next):=by
 obtain⟨vw,h,hS⟩:=h;have hu1:Upd (fun _=>False) w (w.alloc (.cells #[.int .i64 s] 3)):=(uur _ w).alloc _;have hq:(w.alloc (.cells #[.int .i64 s] 3)).cell? ⟨w.heap.size,0,none⟩=some (.int .i64 s):=za (zc w _ rfl) 0;have hd1:=h.new hu1;have hjl:=zd h.str;have hwl:=h.good.wl;have hmx:=h.good.mx;have hmf:=qqf;have q1:decide (s<(cov:Int))=false:=by simp;omega
 have q2:decide ((next:Int)<=s)=false:=by simp;omega
 have hqn:vw.ownBlock≠some w.heap.size:=fun e=>by have:=h.ws.lt e;omega
 have HA:=Y5 h hu1 hqn hs hS;clear h hqn hs hS;go_enter func166,ntmps166
 go_wp2_with fail
 have HD:=Y2 hd1 hq;generalize hW1:w.alloc (.cells #[.int .i64 s] 3)=w1 at*;have hm:w.heap.size<w1.heap.size:=by rw[<-hW1];simp
 clear hW1;obtain⟨c0,c1,c2,c3,c4,c5⟩:=hd1.c;clear hd1 hu1
 go_quiet(fail)
 have hu2:Upd (fun _=>False) w1 (w1.drewN nq):=(uur _ _).drewN nq;generalize w1.drewN nq=w2 at*;obtain⟨h,hu1,hqn,hs,hS⟩:=HA.o;have hd2:=HD.o.1.new hu2;have hq2:w2.cell? ⟨w.heap.size,0,none⟩=some (.int .i64 s):=hu2.jS HD.o.2 id;clear c0 c1 c2 c3 c4 c5;obtain⟨c0,c1,c2,c3,c4,c5⟩:=hd2.c;have f3:=hd2.fz 3;have hs3:=zh hd2.str 3 (.int .i64 s);have hu3:=zi w2 j 3 (.int .i64 s);have hq3:(w2.setCell ⟨j,3,none⟩ (.int .i64 s)).cell? ⟨w.heap.size,0,none⟩=some (.int .i64 s):=(hu3.jS hq2 oM)
 have hne:vw.ownBlock≠some j:=hd2.wb;have hw3:=hd2.wt.keep hu3 (fun k hk e=>hne (by rw[hk,e]));have HB:=qqh (zdN hw3 w.heap.size s hq3 hqn hs);have HC:=Y8 hd2 hu2 hs3 hu3 hu1 hS hs hqn;have c0':=c0;have c5':(w2.setCell ⟨j,3,none⟩ (.int .i64 s)).cell? ⟨j,5,none⟩=some vw:=by rw[za hs3];rfl
 obtain⟨ao,c,hv⟩:=hd2.ws.rd.jU;clear hd2 hu2 hs3 hu3 hu1 hS hs hqn hw3 hne hq3 h c1 c2 c4 c0';subst hv;generalize hW3:w2.setCell ⟨j,3,none⟩ (.int .i64 s)=w3 at*;go_wp2_with fail
 refine HB.o.mono ?_;rintro e w4 ⟨v4,rfl,hs4,ho4,hu4⟩;obtain⟨ao4,c4,rfl⟩:=hs4.rd.jU;obtain⟨hd2,hu2,hs3,hu3,hu1,hS,hs,hqn⟩:=HC.o;have hs4':=(hu4.block _ (zd hs3) hd2.wb).trans hs3;have d0:w4.cell? ⟨j,5,none⟩=some (.slice ao W.length c):=by rw[za hs4'];rfl
 have d1:=zf hs4' 5;have HE:=Y4 hs4 ho4 hu4 hs4';clear hs4 ho4 hu4 hs4' hd2 hu2 hs3 hu3 hu1 hS hs hqn c0 c3 c5 c5' f3 hq2;go_wp2
 go_ret
 obtain⟨hd2,hu2,hs3,hu3,hu1,hS,hs,hqn⟩:=HC.o;obtain⟨hs4,ho4,hu4,hs4'⟩:=HE.o;have hu5:=zi w4 j 5 (.slice ao4 0 c4);have h5:=zh hs4' 5 (.slice ao4 0 c4);have hnb:(Value.slice ao4 0 c4).ownBlock≠some j:=by rw[ho4];exact hd2.wb
 have hgd:=hd2.good;have hss:s=((next-1:Nat):Int):=by have:=hgd.wl;omega
 refine⟨rfl,⟨.slice ao4 0 c4,⟨?_,hs4.ky hu5 hnb,hnb,⟨oe,oe,hgd.n1,by simp;have:=hgd.wl;omega,by have:=hgd.n1;omega,hgd.mx,hgd.bs⟩⟩,?_⟩,?_⟩
 .rw [h5,<-hss];rfl
 .rintro k (rfl|hk)
  .exact hS _ (.inl rfl)
  .rw [ho4]at hk;exact hS _ (.inr hk)
 .have a1:Upd S w w2:=(hu1.trans hu2).mono fE;have a2:Upd S w2 w3:=hu3.mono (fun k _ e=>e▸hS j (.inl rfl));have a3:Upd S w3 w4:=hu4.mono (fun k _ e=>hS k (.inr e));have a4:Upd S w4 (w4.setCell ⟨j,5,none⟩ (.slice ao4 0 c4)):=hu5.mono (fun k _ e=>e▸hS j (.inl rfl));exact((a1.trans a2).trans a3).trans a4
theorem JC:(prog.info? 365).map (fun i=>(i.zero.map (·.cells.size),i.size,i.bytes))=some (some 65,65,72):=kR
theorem Ta:(match prog.underlying 365 with|some (.struct fs)=>fs.toList.mapM (fun f=>(prog.info? f.type).map fun i=>(f.offset,i.size))|_=>none)=some [(0,1),(1,64)]:=kR
theorem xL:∃i z,prog.info? 365=some i/\i.zero=some z/\z.cells.size=65/\i.size=65/\i.bytes=72:=by
 obtain⟨i,hi,h⟩:=qYb.1 JC;simp only[qYd]at h;obtain⟨h1,h2,h3⟩:=h;obtain⟨z,hz,hs⟩:=qYb.1 h1;exact⟨i,z,hi,hz,hs,h2,h3⟩
theorem vE(p q:Value)(hp:p.cells.size=1)(hq:q.cells.size=64)(w:World):(Instr.build 365 #[(0,p),(1,q)]).run prog w=.ok (.agg (p.cells.toList++q.cells.toList).toArray) w:=by
 refine run_build w _ _ _ ?_;obtain⟨i,z,hi,hz,hs,_,_⟩:=xL;have hpl:=Ta;have hu:=underlying365;unfold Program.built;rw[hu]at hpl;rw[hi,hu];simp only[hz];simp only at hpl;rw[hpl];exact Yo p q hp hq z.cells hs _ rfl rfl
theorem tE(v:Value)(hv:v.cells.size=65)(w:World):(Instr.buildSlice 317 1 #[(0,v)]).run prog w=.ok (.slice (some ⟨w.heap.size,0,none⟩) 1 1) (w.alloc (.cells v.cells 365)):=by
 obtain⟨i,z,hi,hz,hs,hsz,_⟩:=xL;refine run_buildSlice w _ _ 1 _ _ i z underlying317 hi hz ju ju ?_;obtain⟨a1,a2⟩:=yM 0 v.cells ((Array.range (1*i.size)).map (z.cells[·%z.cells.size]!));rw[show(#[(0,v)]:Array (Nat×Value)).toList=[(0,v)]from rfl];rw[xl _ _ 0 0 65 v _ jC hv jC];show some _=_
 congr 1
 apply qxd
 intro k;rw[a2 k];by_cases hk:k<65
 .rw [if_pos ⟨oM,oM,by simp[hsz];omega⟩];rfl
 .rw [if_neg oM,qxf jP,qxf oM]
theorem Zt(dst:Option Tmp)(ty:TypeId)(pos:String)(after:Array Edge)(p q:Operand)(a:Act)(w:World)(K:Act->World->Prop)(Q:Exit->Act->World->Prop)(hp:(a.eval p).cells.size=1)(hq:(a.eval q).cells.size=64):
  Oper.wp prog {dst:=dst,op:=.build 365 #[(0,p),(1,q)],type:=ty,pos:=pos,after:=after,guard:=none} a w K Q=K (a.put dst (.agg ((a.eval p).cells.toList++(a.eval q).cells.toList).toArray)) w:=by
 unfold Oper.wp execOp;have:=vE (a.eval p) (a.eval q) hp hq w;simp only[qzk,qzh,qzj,qYf,this,qYe];rfl
theorem Wi(dst:Option Tmp)(ty:TypeId)(pos:String)(after:Array Edge)(p:Operand)(a:Act)(w:World)(K:Act->World->Prop)(Q:Exit->Act->World->Prop)(hp:(a.eval p).cells.size=65):
  Oper.wp prog {dst:=dst,op:=.buildSlice 317 1 #[(0,p)],type:=ty,pos:=pos,after:=after,guard:=none} a w K Q=K (a.put dst (.slice (some ⟨w.heap.size,0,none⟩) 1 1)) (w.alloc (.cells (a.eval p).cells 365)):=by
 unfold Oper.wp execOp;have:=tE (a.eval p) hp w;simp only[qzk,qzh,qzj,qYf,this,qYe];rfl
theorem qK(a:Act)(p q:Operand)(w:World)(hp:(a.eval p).cells.size=1)(hq:(a.eval q).cells.size=64):
  (Instr.build 365 ((#[(0,p),(1,q)]:Array (Nat×Operand)).map fun(i,x)=>(i,a.eval x))).run prog w=.ok (.agg ((a.eval p).cells.toList++(a.eval q).cells.toList).toArray) w:=by
 have:=vE (a.eval p) (a.eval q) hp hq w;simp only[qzk,qzh,qzj];exact this
theorem Zu(a:Act)(p:Operand)(w:World)(hp:(a.eval p).cells.size=65):
  (Instr.buildSlice 317 1 ((#[(0,p)]:Array (Nat×Operand)).map fun(i,x)=>(i,a.eval x))).run prog w=.ok (.slice (some ⟨w.heap.size,0,none⟩) 1 1) (w.alloc (.cells (a.eval p).cells 365)):=by
 have:=tE (a.eval p) hp w;simp only[qzk,qzh,qzj];exact this
theorem Tb(s:Int)(x:Bk)(hx:x.length=64):List.foldl (fun(cs:Array Value) (x:Value×Nat)=>cs.setIfInBounds (1+x.2) x.1) (Tryz.zeroCells365.setIfInBounds 0 (.int .i64 s)) (bkC x).zipIdx=(wrC s x).toArray:=by
 have hb:(bkC x).length=64:=by rw[zm,hx]
 have hz1:(Tryz.zeroCells365.setIfInBounds 0 (.int .i64 s)).size=65:=by rw[Array.size_setIfInBounds,tT]
 obtain⟨_,f2⟩:=Go.Great.foldl_set 1 (bkC x) 0 (Tryz.zeroCells365.setIfInBounds 0 (.int .i64 s));apply qxd
 intro k;rw[f2 k,hz1];by_cases hk:k<65
 .by_cases hk0:k=0
  .subst hk0;rw[if_neg oM,Array.getElem?_setIfInBounds_self_of_lt (by rw[tT];omega)];simp
  .rw [if_pos ⟨oM,oM,hk⟩];obtain⟨m,rfl⟩:∃m,k=m+1:=⟨k-1,oM⟩
   simp
 .rw [if_neg oM,qxf oM,qxf (by simp[hb];omega)]
theorem zcp{T:Nat->Prop}{w:World}{j d base n cov next:Nat}{vw:Value}{W:List (Nat×Bk)}(h:JnAt w j vw d base n cov next W){g0:Nat}(c0:w.cell? ⟨g0,0,none⟩=some (.pointer (some ⟨j,0,none⟩)))
  {F:List Bk} {O:List (Nat×Bk)} {P:List Int} (hd:Dv T w d F O P) (hn:∀k,w.heap.size<=k->T k) (hTj:¬T j) (hTg:¬T g0) (s:Nat) (hs1:1<=s) (hs2:s<next) (y:Bk) (hy:y.length=64) (hbn:base+n<=F.length) (hO:O.length<65536):
  Calls prog 246 #[.agg (wrC (s:Int) y).toArray,.pointer (some ⟨g0,0,none⟩)] w (SZ T w d (writeR F O P (base+(s-1)%n) y)):=by
 have hgd:=h.good;have hn1:=hgd.n1;have hbs:=hgd.bs;have hmx:=hgd.mx;obtain⟨w1,hw1⟩:=qqe (w.alloc (.cells (wrC (s:Int) y).toArray 365));have hu1:=qqu hw1;have hg1:=qqg hw1;obtain⟨r0,r1,r2,-,-,-⟩:=(h.new hu1).c;have rr:=zg hg1;have m0:w1.cell? ⟨w.heap.size,0,none⟩=some (.int .i64 (s:Int)):=za hg1 0;have rY:w1.rangeAt w.heap.size 1 (bkC y):=fun i v hv=>by
  have:=rr (1+i) v jj;rw[qXx]at this;exact this
 have hc0:=hu1.jS c0 id;obtain⟨lp,hlp⟩:=qqe ((s-1)%n);have hlp1:lp<n:=by rw[hlp];exact qXt _ oM
 obtain⟨sc,hsc⟩:=qqe (base+lp);have k1:IntKind.i64.wrap ((s:Int)-1)=(s:Int)-1:=qxu _ oM;have k2:IntKind.i64.wrap (((s:Int)-1).tmod (n:Int))=(lp:Int):=by
  rw[show(s:Int)-1=((s-1:Nat):Int) by omega,<-Int.ofNat_tmod,<-hlp];exact qxu _ oM
 have k3:IntKind.i64.wrap ((base:Int)+(lp:Int))=(sc:Int):=by
  rw[hsc,qxs];exact qxu _ oM
 have k4:IntKind.i64.wrap ((base:Int)+((s:Int)-1).tmod (n:Int))=(sc:Int):=by
  rw[show(s:Int)-1=((s-1:Nat):Int) by omega,<-Int.ofNat_tmod,<-hlp];exact k3
 have hn0:¬n=0:=oM;have hut:=underlying60;have hsi:=zq y hy;have hsF:sc<F.length:=oM;have hd1:Dv (fun k=>T k/\k≠w.heap.size) w1.drew d F O P:=((hd.but (qXo _)).keep hu1 (fun _ _ h=>h)).keep ((uur (fun _=>False) _).drew) (fun _ _ h=>h);have hw1s:w.heap.size+1<=w1.drew.heap.size:=by rw[hw1];simp
 have hu1d:Upd T w w1.drew:=(hu1.drew).mono fE;rw[<-hlp,<-hsc];have HD:=Y6 hd1 (fun k (hk:w1.drew.heap.size<=k)=>(⟨hn k oM,oM⟩:T k/\k≠w.heap.size)) hsF hy hO hu1d;have HW1:=qqh hw1;have HT:=Y2 hTj hTg;obtain⟨m,hm⟩:=qqe (w.heap.size);rw[<-hm]at m0 rY HD;have HM:=qqh hm;clear hTj hTg hd1 hn hsF hO hw1s hu1d hw1 hu1 hg1 hd h c0 hgd rr hlp hsc hlp1 hy hm hbn hbs hmx hs1 hs2 hn1;go_enter func246,ntmps246
 go_wp2
 rw[<-HW1.o,<-HM.o];refine qZb (S:=fun W=>W.cell? ⟨g0,0,none⟩=some (.pointer (some ⟨j,0,none⟩))/\W.cell? ⟨j,0,none⟩=some (.pointer (some ⟨d,0,none⟩))/\W.cell? ⟨j,1,none⟩=some (.int .i64 (base:Int))/\W.cell? ⟨j,2,none⟩=some (.int .i64 (n:Int))/\W.cell? ⟨m,0,none⟩=some (.int .i64 (s:Int))/\W.rangeAt m 1 (bkC y)) kR (by(simp only[qYh,qYj]);exact⟨hc0,r0,r1,r2,m0,rY⟩) (fun hHeld=>?_);refine Wl.i [0,1,2,3,4,5,6,7,8,9,10,11,12,13,14,15,16,17] ?_;iterate 18 refine Wl.t hHeld ?_
 refine Wl.o ?_;refine Wl.l 18 (fun w h=>h.2.2.2.2.2) hut hsi hHeld ?_;refine Wl.r 19 (fun K hK=>?_);go_simp
 refine(vl HD.o.1 HD.o.2.1 sc HD.o.2.2.1 y HD.o.2.2.2.1 HD.o.2.2.2.2.1).mono ?_;rintro e w2 ⟨rfl,hd2,hu2⟩;have H2:=Y3 hd2 (((uur (fun k=>T k/\k≠m) w1).drew).trans hu2) (HD.o.2.2.2.2.2.trans (hu2.mono (fun k _ h=>h.1)));clear hd2 hu2;have hTj:∀k,(T k/\k≠m)->¬k=j:=fun k hk e=>HT.o.1 (e▸hk.1);have hTg:∀k,(T k/\k≠m)->¬k=g0:=fun k hk e=>HT.o.2 (e▸hk.1);refine hK.o _ _ (⟨H2.o.2.1.jS hc0 (fun h=>hTg _ h rfl),H2.o.2.1.jS r0 (fun h=>hTj _ h rfl),H2.o.2.1.jS r1 (fun h=>hTj _ h rfl),H2.o.2.1.jS r2 (fun h=>hTj _ h rfl),H2.o.2.1.jS m0 (fun h=>h.2 rfl),H2.o.2.1.range rY (fun h=>h.2 rfl)⟩) (fun hH1=>?_);clear hK K;refine Wl.r 20 (fun K hK=>?_);go_simp
 refine hK.o _ _ (hH1) (fun hH2=>?_);clear hK K;refine Wl.d ?_;go_wp2
 go_ret
 exact⟨rfl,H2.o.1.wide (fun k h=>h.1),H2.o.2.2⟩
def comW(base n:Nat)(F:List Bk):List (Nat×Bk)->List (Nat×Bk)->List Int->DRes
 |[],O,P=>⟨F,O,P,0⟩
 |(s,y)::W,O,P=>if(writeR F O P (base+(s-1)%n) y).cd=0 then comW base n F W (writeR F O P (base+(s-1)%n) y).O (writeR F O P (base+(s-1)%n) y).P else writeR F O P (base+(s-1)%n) y
theorem xA(F:List Bk)(O:List (Nat×Bk))(P:List Int)(s:Nat)(y:Bk):(writeR F O P s y).F=F:=by
 unfold writeR;split;rfl;split<;>rfl
theorem wM(F:List Bk)(O:List (Nat×Bk))(P:List Int)(s:Nat)(y:Bk):(writeR F O P s y).O.length<=O.length+1:=by
 unfold writeR;split;simp;split<;>simp
theorem QH(F:List Bk)(O:List (Nat×Bk))(P:List Int):(flushR F O P).O.length<=O.length:=by
 unfold flushR;split;simp;split<;>simp
theorem Wj(base n:Nat)(F:List Bk):∀(W O:List (Nat×Bk)) (P:List Int),(comW base n F W O P).F=F
 |[],_,_=>rfl
 |(s,y)::W,O,P=>by
  unfold comW;split
  .exact Wj base n F W _ _
  .exact xA _ _ _ _ _
theorem Wk(base n:Nat)(F:List Bk):∀(W O:List (Nat×Bk)) (P:List Int),(comW base n F W O P).O.length<=O.length+W.length
 |[],_,_=>by simp[comW]
 |(s,y)::W,O,P=>by
  have h1:=wM F O P (base+(s-1)%n) y;unfold comW;split
  .have:=Wk base n F W (writeR F O P (base+(s-1)%n) y).O (writeR F O P (base+(s-1)%n) y).P;simp only[qyz];omega
  .simp only[qyz];omega
abbrev zdO(g0:Nat):Value:=.func (.func 246) #[] #[.pointer (some ⟨g0,0,none⟩)]
theorem AQ{T:Nat->Prop}{w:World}{j d base n cov next:Nat}{vw:Value}{W:List (Nat×Bk)}(h:JnAt w j vw d base n cov next W)(h1:∀p∈W,1<=p.1){g0:Nat}(c0:w.cell? ⟨g0,0,none⟩=some (.pointer (some ⟨j,0,none⟩)))
  {F:List Bk} {O:List (Nat×Bk)} {P:List Int} (hd:Dv T w d F O P) (hn:∀k,w.heap.size<=k->T k) (hT:∀k,Al j vw k->¬T k) (hTg:¬T g0) (hbn:base+n<=F.length) (hO:O.length+W.length<=65536):
  Calls prog 245 #[vw,zdO g0] w (SZ T w d (comW base n F W O P)):=by
 obtain⟨ao,c,rfl⟩:=h.ws.rd.jU;have H:=Y9 h h1 c0 hn hT hTg hbn hO hd;clear h h1 c0 hn hT hTg hbn hO hd;go_enter func245,ntmps245
 go_wp2
 go_step3
 go_wp2
 go_step3
 go_wp2
 go_loopw[5,10] (fun s5 s10 wr=>∃k O' P',k<=W.length/\s5=.int .i64 0/\s10=.int .i64 (k:Int)/\Dv T wr d F O' P'/\Upd T w wr/\comW base n F W O P=comW base n F (W.drop k) O' P'/\O'.length<=O.length+k) (fun _ s10 _=>W.length-(intOf s10).toNat)
 case atStart=>exact⟨0,O,P,qXy _,rfl,rfl,H.o.2.2.2.2.2.2.2.2,uur _ _,rfl,qXo _⟩
 case round=>
  obtain⟨k,O',P',hk,rfl,rfl,hd,hu,hcom,hOl⟩:=hrel;by_cases hlt:k<W.length
  .obtain ⟨h,h1,c0,hn,hT,hTg,hbn,hO,-⟩:=H.o;have h':=h.keep hu hT;obtain⟨g,off,cap,e1,hgl,hcap,hr⟩:=h'.range hlt;cases e1;have hp1:=h1 W[k] (qyu hlt);have hWl:W.length<=65536:=oM;have hlw:=h.good.lt W[k] (qyu hlt);have h64:=h.good.w64 W[k] (qyu hlt);have hdr:W.drop k=(W[k].1,W[k].2)::W.drop (k+1):=qya hlt;have b1:(0:Int)<=(k:Int):=oM;have b2:(k:Int)<(W.length:Int):=oM;rw[hdr,comW]at hcom;obtain⟨s,hs⟩:=qqe (W[k].1);obtain⟨y,hy⟩:=qqe (W[k].2);rw[<-hs,<-hy]at hr hcom;rw[<-hs]at hp1 hlw;rw[<-hy]at h64;have hu2:Upd (fun _=>False) wr (wr.alloc (.cells (wrC (s:Int) y).toArray 365)):=(uur _ _).alloc _;have hr2:=zg (zc wr (.cells (wrC (s:Int) y).toArray 365) rfl);have hub:=hu.trans (hu2.mono fE);have hc:=zcp (h'.new hu2) (hub.jS c0 hTg) (hd.keep hu2 (fun _ _ h=>h)) (fun k hk=>hn k (qXq hub.size hk)) (hT j (.inl rfl)) hTg s hp1 hlw y h64 hbn oM;have hF:=xA F O' P' (base+(s-1)%n) y;have hO1:=wM F O' P' (base+(s-1)%n) y;generalize writeR F O' P' (base+(s-1)%n) y=r at*;have HC:=Y7 hc hub hF hO1 hcom hOl hk;clear h h' h1 c0 hn hT hTg hbn hO hu hd hc hub hF hO1 hcom hOl hs hy hdr hp1 hlw hgl hcap hu2 hk;go_wp2_with (first
    |refine qYy rfl _ _ rfl _ _ rfl _ _ hr underlying365 rfl (vP _ _ h64) ?_
    |refine qYy rfl _ _ rfl _ _ rfl _ _ hr2 underlying365 rfl (vP _ _ h64) ?_
    |(refine zk rfl _ _ _ rfl _ _ _ rfl rfl (by rw[tT,wrC_len,h64]) (vP _ _ h64) (vU _ _) ?_)
    |fail)
   refine HC.o.1.mono ?_;rintro e w3 ⟨rfl,hd3,hu3⟩;have H3:=Y2 hd3 hu3;clear hd3 hu3 hr hr2;by_cases hcd:r.cd=0
   .rw [hcd];go_wp2
    go_roundw
    case rel=>
     obtain⟨-,hub,hF,hO1,hcom,hOl,hk⟩:=HC.o;have hd3:=H3.o.1;rw[hF]at hd3;rw[if_pos hcd]at hcom;exact⟨k+1,r.O,r.P,oM,rfl,by go_num,hd3,hub.trans H3.o.2,hcom,oM⟩
    case measure=>simp[intOf];omega
   .have q0:(r.cd==0)=false:=by simpa using hcd
    go_wp2
    go_ret
    obtain⟨-,hub,hF,hO1,hcom,hOl,hk⟩:=HC.o;rw[if_neg hcd]at hcom;rw[hcom];exact⟨rfl,H3.o.1,hub.trans H3.o.2⟩
  .obtain rfl:k=W.length:=oM;have HC:=Y3 hd hu hcom;clear hd hu hcom hk hOl;go_wp2
   go_ret
   obtain⟨hd,hu,hcom⟩:=HC.o;rw[hcom,List.drop_length];exact⟨rfl,hd,hu⟩
def comR(base n:Nat)(F:List Bk)(O:List (Nat×Bk))(P:List Int)(W:List (Nat×Bk)):DRes×List (Nat×Bk):=
 if(flushR F O P).cd≠0\/W=[]then(flushR F O P,W)
 else if(comW base n (flushR F O P).F W (flushR F O P).O (flushR F O P).P).cd≠0 then(comW base n (flushR F O P).F W (flushR F O P).O (flushR F O P).P,W)
 else if(flushR (comW base n (flushR F O P).F W (flushR F O P).O (flushR F O P).P).F (comW base n (flushR F O P).F W (flushR F O P).O (flushR F O P).P).O (comW base n (flushR F O P).F W (flushR F O P).O (flushR F O P).P).P).cd≠0 then
  (flushR (comW base n (flushR F O P).F W (flushR F O P).O (flushR F O P).P).F (comW base n (flushR F O P).F W (flushR F O P).O (flushR F O P).P).O (comW base n (flushR F O P).F W (flushR F O P).O (flushR F O P).P).P,W)
 else(flushR (comW base n (flushR F O P).F W (flushR F O P).O (flushR F O P).P).F (comW base n (flushR F O P).F W (flushR F O P).O (flushR F O P).P).O (comW base n (flushR F O P).F W (flushR F O P).O (flushR F O P).P).P,[])
theorem qL(F:List Bk)(O:List (Nat×Bk))(P:List Int):(flushR F O P).F.length=F.length:=by
 unfold flushR;split;rfl;split;exact zM _ _;rfl
def AR(T:Nat->Prop)(w:World)(j:Nat)(vw:Value)(d base n cov next:Nat)(r:DRes×List (Nat×Bk))(e:Ending)(w':World):Prop:=
 e=.returned (.int .i64 r.1.cd)/\Dv T w' d r.1.F r.1.O r.1.P/\(∃vw',JnAt w' j vw' d base n cov next r.2/\(vw'=vw\/vw'.ownBlock=none))/\Upd (fun k=>T k\/k=j) w w'
theorem JD{T:Nat->Prop}{w:World}{j d base n cov next:Nat}{vw:Value}{W:List (Nat×Bk)}(h:JnAt w j vw d base n cov next W)(h1:∀p∈W,1<=p.1)
  {F:List Bk} {O:List (Nat×Bk)} {P:List Int} (hd:Dv T w d F O P) (hn:∀k,w.heap.size<=k->T k) (hT:∀k,Al j vw k->¬T k) (hbn:base+n<=F.length) (hO:O.length+W.length<=65536):
  Calls prog 179 #[.pointer (some ⟨j,0,none⟩)] w (AR T w j vw d base n cov next (comR base n F O P W)):=by
 have hmf:=qqf;obtain⟨ao,c,rfl⟩:=h.ws.rd.jU;obtain⟨w1,hw1⟩:=qqe (w.alloc (.cells #[.pointer (some ⟨j,0,none⟩)] 163));have hu1:=qqu hw1;have hg1:=qqg hw1;obtain⟨m,hm⟩:=qqe (w.heap.size);have hmw1:w1.heap.size=m+1:=by rw[hw1,hm];simp
 have hd1:Dv (fun k=>T k/\k≠m) w1 d F O P:=(hd.but oM).keep hu1 (fun _ _ h=>h);have hn1:∀k,w1.heap.size<=k->T k/\k≠m:=fun k hk=>⟨hn k oM,oM⟩
 have h1j:=h.new hu1;have g0:=za hg1 0;rw[<-hm]at g0 hg1;obtain⟨c0,-,-,-,-,c5⟩:=h1j.c;have HF:=qqh (xE hd1 hn1);have hjm:∀k,Al j (.slice ao W.length c) k->¬(T k/\k≠m):=fun k hk ht=>hT k hk ht.1;have H:=Y11 h1j h1 hn1 hjm hbn hO hu1 hg1 hm hmw1 hT;have c0':=c0;rw[hw1]at c0';have HW1:=qqh hw1;have HM:=qqh hm;clear h h1 hd hn hT hbn hO hu1 hd1 hn1 h1j hg1 hjm hw1 hm hmw1;have g0':w1.cell? ⟨m,0,none⟩=some (.pointer (some ⟨j,0,none⟩)):=g0;go_enter func179,ntmps179
 go_wp2_with fail
 rw[<-HW1.o,<-HM.o];clear c0';refine HF.o.mono ?_;rintro e w2 ⟨rfl,hd2,hu2⟩;obtain⟨h1j,h1,hn1,hjm,hbn,hO,hu1,hg1,hm,hmw1,hT⟩:=H.o;have hl1:=qL F O P;have ho1:=QH F O P;have hcr:comR base n F O P W=comR base n F O P W:=rfl
 conv at hcr=>rhs;unfold comR
 generalize comR base n F O P W=R at*;generalize flushR F O P=r at*;have hj2:=h1j.keep hu2 hjm;have gm2:=hu2.jS g0' (fun h=>h.2 rfl);obtain⟨d0,-,-,-,-,d5⟩:=hj2.c;have H2:=Y6 hd2 hu2 hj2 hl1 ho1 hcr;clear h1j h1 hn1 hjm hbn hO hu1 hg1 hm hmw1 hT hl1 ho1 hcr hj2 hd2 hu2 HF c0 c5 g0 g0';by_cases hcd:r.cd=0
 .have hcd':=qqh hcd;rw[hcd];clear hcd;by_cases hW:W.length=0
  .have hW':=qqh hW;rw[hW]at d5;clear hW;go_wp2
   go_ret
   obtain⟨hd2,hu2,hj2,hl1,ho1,hcr⟩:=H2.o;rw[if_pos (Or.inr (List.length_eq_zero_iff.1 hW'.out))]at hcr;subst hcr;refine⟨by rw[hcd'.out];rfl,hd2.wide (fun k h=>h.1),⟨_,hj2,.inl rfl⟩,?_⟩;obtain⟨h1j,h1,hn1,hjm,hbn,hO,hu1,hg1,hm,hmw1,hT⟩:=H.o;exact(hu1.mono fE).trans (hu2.mono (fun k _ h=> .inl h.1))
  .have hW':=qqh hW;obtain⟨hd2,hu2,hj2,hl1,ho1,hcr⟩:=H2.o;obtain⟨h1j,h1,hn1,hjm,hbn,hO,hu1,hg1,hm,hmw1,hT⟩:=H.o;have HC:=qqh (AQ hj2 h1 gm2 hd2 (fun k hk=>hn1 k (qXq hu2.size hk)) hjm (fun h=>h.2 rfl) oM oM);rw[if_neg (fun e=>e.elim (fun h=>h hcd'.out) (fun h=>hW (by simp[h])))]at hcr;have hfl:=Wj base n r.F W r.O r.P;have hol:=Wk base n r.F W r.O r.P;generalize comW base n r.F W r.O r.P=r2 at*;have H2':=Y3 hcr hfl hol;clear hcr hfl hol h1j h1 hn1 hjm hbn hO hu1 hg1 hm hmw1 hT hd2 hu2 hj2 hl1 ho1 hW;have hW:=hW'.out;go_wp2_with fail
   refine HC.o.mono ?_;rintro e w3 ⟨rfl,hd3,hu3⟩;obtain⟨hd2,hu2,hj2,hl1,ho1,-⟩:=H2.o;obtain⟨h1j,h1,hn1,hjm,hbn,hO,hu1,hg1,hm,hmw1,hT⟩:=H.o;have hj3:=hj2.keep hu3 hjm;have gm3:=hu3.jS gm2 (fun h=>h.2 rfl);obtain⟨e0,-,-,-,-,e5⟩:=hj3.c;have HF3:=qqh (xE hd3 (fun k hk=>hn1 k (qXq (qXq hu2.size hu3.size) hk)));have hU3:Upd (fun k=>T k\/k=j) w w3:=((hu1.mono fE).trans (hu2.mono (fun k _ h=> .inl h.1))).trans (hu3.mono (fun k _ h=> .inl h.1));have H3:=Y4 hd3 hj3 hU3 hjm;clear h1j h1 hn1 hjm hbn hO hu1 hg1 hm hmw1 hT hd2 hu2 hj2 hl1 ho1 hd3 hu3 hj3 hU3 d0 d5 gm2 HC;by_cases hc2:r2.cd=0
   .have hc2':=qqh hc2;rw[hc2];clear hc2;go_wp2_with fail
    refine HF3.o.mono ?_;rintro e w4 ⟨rfl,hd4,hu4⟩;obtain⟨hcr,hfl,hol⟩:=H2'.o;obtain⟨hd3,hj3,hU3,hjm⟩:=H3.o;rw[if_neg (fun e=>e hc2'.out)]at hcr;generalize flushR r2.F r2.O r2.P=r3 at*;have hj4:=hj3.keep hu4 hjm;have gm4:=hu4.jS gm3 (fun h=>h.2 rfl);have z5:=hj4.fz 5;obtain⟨-,-,-,-,-,k5⟩:=hj4.c;have hU4:Upd (fun k=>T k\/k=j) w w4:=hU3.trans (hu4.mono (fun k _ h=> .inl h.1));have H4:=Y5 hcr hd4 hj4 hU4 hjm;clear hcr hfl hol hd3 hj3 hU3 hjm hd4 hu4 hj4 hU4 e0 e5 gm3 HF3;by_cases hc3:r3.cd=0
    .have hc3':=qqh hc3;rw[hc3];clear hc3;go_wp2
     go_ret
     obtain⟨hcr,hd4,hj4,hU4,hjm⟩:=H4.o;rw[if_neg (fun e=>e hc3'.out)]at hcr;subst hcr;have hu5:=zi w4 j 5 (.slice none 0 0);refine⟨by rw[hc3'.out];rfl,(hd4.keep hu5 (fun k hk e=>hjm k (.inl e) hk)).wide (fun k h=>h.1),⟨.slice none 0 0,⟨(zh hj4.str 5 _).trans oe,Sl.nil _ _ _,by simp[Value.ownBlock],⟨oe,oe,hj4.good.n1,by have:=hj4.good.wl;simp;omega,hj4.good.room,hj4.good.mx,hj4.good.bs⟩⟩,.inr rfl⟩,hU4.trans (hu5.mono (fun k _ e=> .inr e))⟩
    .have q0:(r3.cd==0)=false:=by simpa using hc3
     go_wp2
     go_ret
     obtain⟨hcr,hd4,hj4,hU4,hjm⟩:=H4.o;rw[if_pos hc3]at hcr;subst hcr;exact⟨rfl,hd4.wide (fun k h=>h.1),⟨_,hj4,.inl rfl⟩,hU4⟩
   .have q0:(r2.cd==0)=false:=by simpa using hc2
    go_wp2
    go_ret
    obtain⟨hcr,-⟩:=H2'.o;obtain⟨hd3,hj3,hU3,hjm⟩:=H3.o;rw[if_pos hc2]at hcr;subst hcr;exact⟨rfl,hd3.wide (fun k h=>h.1),⟨_,hj3,.inl rfl⟩,hU3⟩
 .have q0:(r.cd==0)=false:=by simpa using hcd
  go_wp2
  go_ret
  obtain⟨hd2,hu2,hj2,hl1,ho1,hcr⟩:=H2.o;rw[if_pos (Or.inl hcd)]at hcr;subst hcr;refine⟨rfl,hd2.wide (fun k h=>h.1),⟨_,hj2,.inl rfl⟩,?_⟩;obtain⟨h1j,h1,hn1,hjm,hbn,hO,hu1,hg1,hm,hmw1,hT⟩:=H.o;exact(hu1.mono fE).trans (hu2.mono (fun k _ h=> .inl h.1))
end Go.Proofs.YtpejdgiccaijfaaGreatDoor
