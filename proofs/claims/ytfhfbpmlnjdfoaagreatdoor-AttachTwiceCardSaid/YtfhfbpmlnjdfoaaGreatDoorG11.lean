/- Pages: Write o -/
import Derived.Test.YtfhfbpmlnjdfoaaGreatDoorG10
import Derived.Lib.SliceRun
set_option maxRecDepth 100000
set_option maxHeartbeats 1000000
namespace Go.Proofs.YtfhfbpmlnjdfoaaGreatDoor
open Go Go.RowKit Go.Shelf Tryz
attribute [local go_sem] qYh
theorem Dv.exact{S:Nat->Prop}{w:World}{b:Nat}{F:List Bk}{O:List (Nat×Bk)}{P:List Int}(h:Dv S w b F O P):∃S0:Nat->Prop,Dv S0 w b F O P/\(∀j,S0 j->S j)/\∀j,S0 j->∃cs t z,w.heap[j]?=some (.cells cs t z):=by
 obtain⟨vf,vo,vp,h,hs⟩:=h;exact⟨dvS b vf vo vp,⟨vf,vo,vp,h,fun _ hj=>hj⟩,hs,fun j hj=>by obtain⟨cs,t,hc⟩:=h.cells j hj;exact⟨cs,t,_,hc⟩⟩
theorem Qn(base i:Nat)(B:List Bk):ckO base (i+1) B=ckO base i B++[Yl base B i]:=by simp[ckO,List.range_succ]
theorem Ja(base i:Nat)(B:List Bk):(ckO base i B).length=i:=by simp[ckO]
end Go.Proofs.YtfhfbpmlnjdfoaaGreatDoor
namespace Go.Proofs.YtfhfbpmlnjdfoaaGreatDoor
open Go Go.RowKit Tryz
def JrAt(w:World)(j:Nat)(d:Nat)(base n seq next:Int):Prop:=
 w.cell? ⟨j,0,none⟩=some (.pointer (some ⟨d,0,none⟩))/\w.cell? ⟨j,1,none⟩=some (.int .i64 base)/\w.cell? ⟨j,2,none⟩=some (.int .i64 n)/\
  w.cell? ⟨j,3,none⟩=some (.int .i64 seq)/\w.cell? ⟨j,4,none⟩=some (.int .i64 next)
theorem zbt(w:World)(j d:Nat)(base n seq next:Int)(h:JrAt w j d base n seq next):
  Calls prog 154 #[.pointer (some ⟨j,0,none⟩)] w fun e w'=>e=.returned (.int .i64 next)/\w=w':=by
 obtain⟨h0,h1,h2,h3,h4⟩:=h;go_enter func154,ntmps154
 go_wp2
 go_ret
 exact⟨rfl,rfl⟩
theorem Vz{S:Nat->Prop}{w:World}{b:Nat}{F:List Bk}{O:List (Nat×Bk)}{P:List Int}(h:Dv S w b F O P)(base n:Nat)(h1:1<=n)(h2:n<=1024)(h3:base+n<=F.length)(h4:F.length<=4096):
  Calls prog 103 #[.pointer (some ⟨b,0,none⟩),.int .i64 (base:Int),.int .i64 (n:Int)] w fun e w'=>e=.returned (.int .i64 0)/\w=w':=by
 have q1:decide ((base:Int)<0)=false:=by simp
 have q2:decide ((n:Int)<1)=false:=by simp;omega
 have q3:decide ((n:Int)>1024)=false:=by simp;omega
 have q3':decide (1024<(n:Int))=false:=by simp;omega
 have q4:decide ((base:Int)>F.length-n)=false:=by simp;omega
 have q4':decide ((F.length:Int)-n<(base:Int))=false:=by simp;omega
 go_enter func103,ntmps103
 go_wp2_with (first
  |(go_at_call 47;refine(vV h).mono ?_;rintro e w' ⟨rfl,rfl⟩)
  |fail)
 go_ret
 exact⟨rfl,rfl⟩
structure Thing(R:(Nat->Prop)->World->Prop):Prop where
 keep:∀{S T:Nat->Prop} {w w':World},R S w->Upd T w w'->(∀j,S j->¬T j)->R S w'
 out:∀{S S':Nat->Prop} {w:World},R S w->(∀j,j<w.heap.size->S j->S' j)->R S' w
def grow(own:Nat->Nat)(t n n':Nat):Nat->Nat:=fun j=>if n<=j/\j<n' then t else own j
theorem zx{own:Nat->Nat}{t n n' j:Nat}(h:j<n):grow own t n n' j=own j:=if_neg (by omega)
theorem YN{own:Nat->Nat}{t n n' j:Nat}(h:n<=j)(h':j<n'):grow own t n n' j=t:=if_pos ⟨h,h'⟩
structure Did(own own':Nat->Nat)(w w':World):Prop where
 upd:Upd (fun j=>own j≠0/\own j<16) w w'
 old:∀j,j<w.heap.size->own' j=own j
 new:∀j,w.heap.size<=j->own' j<16
 far:∀j,w'.heap.size<=j->own' j=0
section
variable{own own' own2:Nat->Nat}{w w' w2:World}{R:(Nat->Prop)->World->Prop}{t k:Nat}
theorem Did.refl(h:∀j,w.heap.size<=j->own j=0):Did own own w w:=⟨uur _ _,fun _ _=>rfl,fun j hj=>by rw[h j hj];decide,h⟩
theorem Did.trans(h:Did own own' w w')(g:Did own' own2 w' w2):Did own own2 w w2 where
 upd:=h.upd.new g.upd (fun j hj hs=>by rw[<-h.old j hj];exact hs)
 old:=fun j hj=>(g.old j (qXy hj h.upd.size)).trans (h.old j hj)
 new:=fun j hj=>by
  by_cases hl:j<w'.heap.size
  .rw [g.old j hl];exact h.new j hj
  .exact g.new j (by omega)
 far:=g.far
theorem Did.drew(h:Did own own' w w'):Did own own' w w'.drew:=⟨h.upd.drew,h.old,h.new,h.far⟩
theorem Did.setCell(h:Did own own' w w')(p:Addr)(hp:p.block<w.heap.size->own p.block≠0/\own p.block<16)(u:Value):Did own own' w (w'.setCell p u):=
 ⟨h.upd.setCell p hp u,h.old,h.new,fun j hj=>h.far j (by simpa using hj)⟩
theorem Did.step(hf:∀j,w.heap.size<=j->own j=0)(ht:t≠0)(h16:t<16)(hu:Upd (fun j=>own j=t\/w.heap.size<=j) w w'):Did own (grow own t w.heap.size w'.heap.size) w w' where
 upd:=hu.mono (fun j hj hs=>by rcases hs with hs|hs;exact hs▸⟨ht,h16⟩;omega)
 old:=fun j hj=>zx hj
 new:=fun j hj=>by
  unfold grow;split
  .exact h16
  .rw [hf j hj];decide
 far:=fun j hj=>by
  have:=hu.size;unfold grow;rw[if_neg (by omega)];exact hf j (by omega)
theorem Thing.other(hR:Thing R)(h:R (fun j=>own j=k) w)(hk:k≠t)(hu:Upd (fun j=>own j=t\/w.heap.size<=j) w w'):R (fun j=>grow own t w.heap.size w'.heap.size j=k) w':=by
 have h1:R (fun j=>own j=k/\j<w.heap.size) w:=hR.out h (fun j hj hs=>⟨hs,hj⟩);have h2:=hR.keep h1 hu (fun j hs ht=>by rcases ht with ht|ht;exact hk (hs.1.symm.trans ht);omega);exact hR.out h2 (fun j hj hs=>by rw[zx hs.2];exact hs.1)
theorem Thing.mine(hR:Thing R)(_hu:w.heap.size<=w'.heap.size)(h:R (fun j=>own j=t\/w.heap.size<=j) w'):R (fun j=>grow own t w.heap.size w'.heap.size j=t) w':=
 hR.out h (fun j hj hs=>by
  by_cases hl:w.heap.size<=j
  .exact YN hl hj
  .rw [zx (by omega)];exact hs.resolve_right hl)
theorem Thing.open(hR:Thing R)(h:R (fun j=>own j=t) w):R (fun j=>own j=t\/w.heap.size<=j) w:=hR.out h (fun _ _ hs=> .inl hs)
theorem Thing.new(hR:Thing R){S:Nat->Prop}(h:R S w)(hu:Upd (fun _=>False) w w'):R S w':=hR.keep h hu (fun _ _ h=>h)
end
structure JnGood(base n cov next:Nat)(W:List (Nat×Bk)):Prop where
 w64:∀p∈W,p.2.length=64
 lt:∀p∈W,p.1<next
 n1:1<=n/\n<=1024
 wl:W.length+cov+1<=next
 room:next<=cov+n+1
 mx:next<=1099511627777
 bs:base<=4096
structure JnAt(w:World)(j:Nat)(vw:Value)(d base n cov next:Nat)(W:List (Nat×Bk)):Prop where
 str:w.heap[j]?=some (.cells #[.pointer (some ⟨d,0,none⟩),.int .i64 base,.int .i64 n,.int .i64 cov,.int .i64 next,vw] 276 (0,0))
 ws:Sl w 289 65 vw W.length (opC W)
 wb:vw.ownBlock≠some j
 good:JnGood base n cov next W
def ED(j:Nat)(vw:Value):Nat->Prop:=fun k=>k=j\/vw.ownBlock=some k
section
variable{w w':World}{j d base n cov next:Nat}{vw:Value}{W:List (Nat×Bk)}
theorem JnAt.keep(h:JnAt w j vw d base n cov next W){S:Nat->Prop}(hu:Upd S w w')(hs:∀k,ED j vw k->¬S k):JnAt w' j vw d base n cov next W:=
 {h with
  str:=(hu.block _ (zf h.str) (hs j (.inl rfl))).trans h.str
  ws:=h.ws.keep hu (fun g hg=>hs g (.inr hg))}
theorem JnAt.new(h:JnAt w j vw d base n cov next W)(hu:Upd (fun _=>False) w w'):JnAt w' j vw d base n cov next W:=h.keep hu (fun _ _ h=>h)
theorem JnAt.slt(h:JnAt w j vw d base n cov next W):∀k,ED j vw k->k<w.heap.size:=by
 rintro k (rfl|hk)
 .exact zf h.str
 .exact h.ws.lt hk
theorem JnAt.c(h:JnAt w j vw d base n cov next W):w.cell? ⟨j,0,none⟩=some (.pointer (some ⟨d,0,none⟩))/\w.cell? ⟨j,1,none⟩=some (.int .i64 base)/\w.cell? ⟨j,2,none⟩=some (.int .i64 n)/\
  w.cell? ⟨j,3,none⟩=some (.int .i64 cov)/\w.cell? ⟨j,4,none⟩=some (.int .i64 next)/\w.cell? ⟨j,5,none⟩=some vw:=by
 refine⟨?_,?_,?_,?_,?_,?_⟩<;>rw[za h.str]<;>rfl
theorem JnAt.fz(h:JnAt w j vw d base n cov next W)(i:Nat):w.frozen? ⟨j,i,none⟩=false:=zg h.str i
structure WtAt(w:World)(vw:Value)(next:Nat)(W:List (Nat×Bk)):Prop where
 ws:Sl w 289 65 vw W.length (opC W)
 w64:∀p∈W,p.2.length=64
 lt:∀p∈W,p.1<next
 wl:W.length+1<=next
 mx:next<=1099511627777
theorem JnAt.wt(h:JnAt w j vw d base n cov next W):WtAt w vw next W:=⟨h.ws,h.good.w64,h.good.lt,by have:=h.good.wl;omega,h.good.mx⟩
theorem WtAt.keep(h:WtAt w vw next W){S:Nat->Prop}(hu:Upd S w w')(hs:∀k,vw.ownBlock=some k->¬S k):WtAt w' vw next W:={h with ws:=h.ws.keep hu hs}
theorem WtAt.new(h:WtAt w vw next W)(hu:Upd (fun _=>False) w w'):WtAt w' vw next W:=h.keep hu (fun _ _ h=>h)
theorem WtAt.range(h:WtAt w vw next W){k:Nat}(hk:k<W.length):∃g off cap,vw=.slice (some ⟨g,off,none⟩) W.length cap/\g<w.heap.size/\W.length<=cap/\w.rangeAt g (off+k*65) (wrC W[k].1 W[k].2):=by
 obtain⟨hl,⟨_,h0⟩|⟨g,off,cap,cur,rfl,hg,hn,hm,hs,hc⟩⟩:=h.ws
 .omega
 .refine ⟨g,off,cap,rfl,zf hg,hn,fun j v hj=>?_⟩;have hj':=(qyp.1 hj).1;rw[wrC_len,h.w64 _ (qyz hk)]at hj';rw[za hg,qXr];exact hc _ _ (by rw[TR h.w64 hk hj'];exact hj)
theorem JnAt.range(h:JnAt w j vw d base n cov next W){k:Nat}(hk:k<W.length):∃g off cap,vw=.slice (some ⟨g,off,none⟩) W.length cap/\g<w.heap.size/\W.length<=cap/\w.rangeAt g (off+k*65) (wrC W[k].1 W[k].2):=h.wt.range hk
end
def Jn(S:Nat->Prop)(w:World)(j d base n cov next:Nat)(W:List (Nat×Bk)):Prop:=∃vw,JnAt w j vw d base n cov next W/\∀k,ED j vw k->S k
theorem Jn.jQ(j d base n cov next:Nat)(W:List (Nat×Bk)):Thing (fun S w=>Jn S w j d base n cov next W)where
 keep:=fun h hu hs=>by
  obtain⟨v,h,hS⟩:=h;exact⟨v,h.keep hu (fun j hj=>hs j (hS j hj)),hS⟩
 out:=fun h hs=>by
  obtain⟨v,h,hS⟩:=h;exact⟨v,h,fun j hj=>hs j (h.slt j hj) (hS j hj)⟩
theorem Jn.good{S:Nat->Prop}{w:World}{j d base n cov next:Nat}{W:List (Nat×Bk)}(h:Jn S w j d base n cov next W):JnGood base n cov next W:=by obtain⟨v,h,-⟩:=h;exact h.good
theorem UC{S:Nat->Prop}{w:World}{j d base n cov next:Nat}{W:List (Nat×Bk)}(h:Jn S w j d base n cov next W):
  Calls prog 154 #[.pointer (some ⟨j,0,none⟩)] w fun e w'=>e=.returned (.int .i64 (next:Int))/\w=w':=by
 obtain⟨v,h,-⟩:=h;obtain⟨c0,c1,c2,c3,c4,c5⟩:=h.c;exact zbt w j d base n cov next ⟨c0,c1,c2,c3,c4⟩
theorem Qo{S:Nat->Prop}{T:Nat->Prop}{w:World}{b:Nat}{F:List Bk}{O:List (Nat×Bk)}{P:List Int}(h:Dv T w b F O P)(hn:∀j,w.heap.size<=j->S j)(base n seq:Nat)(h1:1<=n)(h2:n<=1024)(h3:base+n<=F.length)(h5:seq<1099511627776):
  Calls prog 131 #[.pointer (some ⟨b,0,none⟩),.int .i64 (base:Int),.int .i64 (n:Int),.int .i64 (seq:Int)] w fun e w'=>∃j,e=.returned (.tuple #[.pointer (some ⟨j,0,none⟩),.int .i64 0])/\
   Jn S w' j b base n seq (seq+1) []/\w.heap.size<=j/\Below w.heap.size w w':=by
 have h4:=h.good.fl;have q1:decide ((seq:Int)<0)=false:=by simp
 have q2:decide ((seq:Int)>=1099511627776)=false:=by simp;omega
 have hs:¬(1099511627776<=(seq:Int)):=by omega
 go_enter func131,ntmps131
 go_wp2_with (first
  |(go_at_call 103;refine(Vz h base n h1 h2 h3 h4).mono ?_;rintro e w' ⟨rfl,rfl⟩)
  |fail)
 go_ret2
 have hb:=zc w (.cells #[.pointer (some ⟨b,0,none⟩),.int .i64 (base:Int),.int .i64 (n:Int),.int .i64 (seq:Int),.int .i64 ((seq:Int)+1),.slice none 0 0] 276) rfl;refine⟨w.heap.size,rfl,⟨.slice none 0 0,⟨?_,Sl.nil _ _ _,by simp[Value.ownBlock],⟨by simp,by simp,⟨h1,h2⟩,by simp,by omega,by omega,by omega⟩⟩,?_⟩,qXv _,(qxl _ w).alloc (qXv _) _⟩
 .rw [hb];simp
 .rintro k (rfl|hk)
  .exact hn _ (qXv _)
  .cases hk
theorem Ah:(prog.info? 289).map (·.size)=some 65:=by kernel_rfl
theorem vO(s:Int)(x:Bk)(hx:x.length=64):(prog.info? 289).map (·.size)=some (wrC s x).length:=by
 rw[Ah,wrC_len,hx]
theorem tY:Tryz.zeroCells289.size=65:=by kernel_rfl
theorem EE(w:World)(q:Nat)(s:Int)(hq:w.cell? ⟨q,0,none⟩=some (.int .i64 s))(x:Nat)(y:Bk)(hx:(x:Int)<=s):
  Calls prog 219 #[.agg (wrC (x:Int) y).toArray,.pointer (some ⟨q,0,none⟩)] w fun e w'=>e=.returned (.bool true)/\Below w.heap.size w w':=by
 have hqb:q<w.heap.size:=(zK hq).2;obtain⟨L,hL⟩:=qqe ((wrC (x:Int) y).toArray);have h0:L[0]?=some (.int .i64 (x:Int)):=by rw[hL];rfl
 have q1:decide ((x:Int)<=s)=true:=by simpa using hx
 have hq1:(w.alloc (.cells L 289)).cell? ⟨q,0,none⟩=some (.int .i64 s):=zm hq _;have hc:(w.alloc (.cells L 289)).cell? ⟨w.heap.size,0,none⟩=some (.int .i64 (x:Int)):=(za (zc w _ rfl) 0).trans h0;rw[<-hL];clear hL hq;go_enter func219,ntmps219
 go_wp2
 go_ret
 exact⟨rfl,(qxl _ _).alloc (qXv _) _⟩
theorem Ai:(prog.info? 289).map (fun i=>(i.zero.map (fun z=>(z.cells.size,z.cells.all (·.oneCell'))),i.size))=some (some (65,true),65):=by kernel_rfl
theorem Zr:∃i z,prog.info? 289=some i/\i.zero=some z/\z.cells.size=65/\z.cells.all (·.oneCell')=true/\i.size=65:=by
 obtain⟨i,hi,h⟩:=qYi.1 Ai;simp only[qYk]at h;obtain⟨h1,h2⟩:=h;obtain⟨z,hz,hs⟩:=qYi.1 h1;simp only[qYk]at hs;exact⟨i,z,hi,hz,hs.1,hs.2,h2⟩
theorem Zs{w:World}{g off n cap:Nat}{cur:Array Value}(hg:w.heap[g]?=some (.cells cur 289 (0,0)))(hs:off+n*65<=cur.size)(hn:0<n):
  ∃w',(∀ty,(Builtin.clear_ #[274] ty #[.slice (some ⟨g,off,none⟩) n cap]).run prog w=.ok (.tuple #[]) w')/\Upd (fun j=>j=g) w w'/\
   ∃cur',w'.heap[g]?=some (.cells cur' 289 (0,0))/\cur'.size=cur.size:=by
 obtain⟨i,z,hi,hz,hzs,hz1,hsz⟩:=Zr;have hlen:(Builtin.zeroCells z.cells n).toList.length=n*65:=by simp[Builtin.zeroCells,hzs]
 have h1:∀v∈(Builtin.zeroCells z.cells n).toList,v.oneCell'=true:=by
  intro v hv;simp only[Builtin.zeroCells,Array.toList_map,qzv]at hv;obtain⟨k,hk,rfl⟩:=hv;have:k%z.cells.size<z.cells.size:=qYa _ (by omega);rw[getElem!_pos z.cells (k%z.cells.size) this];exact Array.all_eq_true.1 hz1 _ this
 have hst:=run_storeCells_cells (P:=prog) g off (Builtin.zeroCells z.cells n).toList 0 w
  (fun j hj=>by rw[hlen]at hj;rw[za hg,qXs,qxe (by omega)];rfl) (fun j hj=>zg hg _) h1
 simp only[qXs]at hst;obtain⟨cur',h2,h3,-⟩:=zA (Builtin.zeroCells z.cells n).toList off w g cur _ _ hg;have hzr:∀w,(zeroValue 289).run prog w=.ok z w:=fun w=>by simp[zeroValue,typeInfo,hi,hz]
 refine⟨_,fun ty=>?_,yp _ w g off _ rfl,cur',h2,h3⟩;obtain⟨m,rfl⟩:∃m,n=m+1:=⟨n-1,by omega⟩
 simp[Builtin.clear_,run_underlying underlying274,hzr,hst]
abbrev zbu(q:Nat):Value:=.func (.func 219) #[] #[.pointer (some ⟨q,0,none⟩)]
theorem zcu{w:World}{next:Nat}{vw:Value}{W:List (Nat×Bk)}(h:WtAt w vw next W)(q:Nat)(s:Int)(hq:w.cell? ⟨q,0,none⟩=some (.int .i64 s))(hs:s=(next:Int)-1):
  Calls prog 285 #[vw,zbu q] w fun e w'=>e=.returned (.int .i64 (if W=[]then-1 else 0))/\Below w.heap.size w w':=by
 by_cases h0:W=[]
 .subst h0;rw[if_pos rfl];obtain⟨ao,c,rfl⟩:=h.ws.rd.jd;clear h;go_enter func285,ntmps285
  go_wp2
  go_loop [8] (fun i=>i=.int .i64 0) (fun _=>0)
  case atStart=>rfl
  case round=>
   subst hrel;go_wp2
   go_ret
   exact⟨rfl,qxl _ _⟩
 .rw [if_neg h0];have hl:0<W.length:=by cases W with|nil=>exact absurd rfl h0|cons a l=>simp
  obtain⟨g,off,cap,rfl,hgl,hcap,hr⟩:=h.range hl;have hlt:=h.lt W[0] (qyz hl);have h64:=h.w64 W[0] (qyz hl);have hwl:=h.wl;have hmx:=h.mx;rw[qYg,qXs]at hr;have b1:(0:Int)<(W.length:Int):=by omega
  have hc:=EE w q s hq W[0].1 W[0].2 (by omega);generalize W[0].1=x at*;generalize W[0].2=y at*;have HC:=qqh hc;clear h h0 hc hs hq hlt;generalize W.length=m at*;go_enter func285,ntmps285
  go_wp2
  go_loop [8] (fun i=>i=.int .i64 0) (fun _=>0)
  case atStart=>rfl
  case round=>
   subst hrel;go_wp2_with (first
    |refine qZg rfl _ _ rfl _ _ rfl _ _ hr underlying289 rfl (vO _ _ h64) ?_
    |fail)
   refine HC.o.mono ?_;rintro e w' ⟨rfl,hb⟩;go_wp2
   go_ret
   exact⟨rfl,hb⟩
def Jb(w:World)(vw:Value)(e:Ending)(w':World):Prop:=∃v',e=.returned v'/\Sl w' 289 65 v' 0 []/\v'.ownBlock=vw.ownBlock/\Upd (fun k=>vw.ownBlock=some k) w w'
theorem zcv{w:World}{next:Nat}{vw:Value}{W:List (Nat×Bk)}(h:WtAt w vw next W)(q:Nat)(s:Int)(hq:w.cell? ⟨q,0,none⟩=some (.int .i64 s))(hqn:vw.ownBlock≠some q)(hs:s=(next:Int)-1):
  Calls prog 218 #[vw,zbu q] w (Jb w vw):=by
 have HI:=qqh (zcu h q s hq hs);by_cases h0:W=[]
 .subst h0;rw[if_pos rfl]at HI;have HH:=qqh h;clear h hq hs hqn;go_enter func218,ntmps218
  go_wp2_with fail
  refine HI.o.mono ?_;rintro e w' ⟨rfl,hb⟩;go_wp2
  go_ret
  exact⟨vw,rfl,(HH.o.new (uuo hb)).ws,rfl,(uuo hb)⟩
 .rw [if_neg h0]at HI;have hl:0<W.length:=by cases W with|nil=>exact absurd rfl h0|cons a l=>simp
  obtain⟨-,⟨_,h2⟩|⟨g,off,cap,cur,rfl,hg,hcap,hcm,hsz,-⟩⟩:=h.ws
  .omega
  unfold maxLen at hcm;have hwl:=h.wl;have hmx:=h.mx;have HH:=Y6 h hq hs hg hsz hqn;clear h hq hs h0 hg hsz hqn;go_enter func218,ntmps218
  go_wp2_with fail
  refine HI.o.mono ?_;rintro e w1 ⟨rfl,hb⟩;have hu1:=qqb hb;clear hb;go_wp2
  go_loopw[5,6] (fun s5 s6 wr=>∃k:Nat,1<=k/\k<=W.length/\s5=.int .i64 0/\s6=.int .i64 k/\Upd (fun _=>False) w wr) (fun _ s6 _=>W.length-(intOf s6).toNat)
  case atStart=>exact⟨1,by omega,by omega,rfl,rfl,hu1⟩
  case round=>
   obtain⟨k,hk1,hk,rfl,rfl,hu⟩:=hrel;by_cases hlt:k<W.length
   .obtain ⟨h,hq,hs,hg,hsz,hqn⟩:=HH.o;obtain⟨g',off',cap',e1,hgl,hcap',hr⟩:=(h.new hu).range hlt;cases e1;have hlw:=h.lt W[k] (qyz hlt);have h64:=h.w64 W[k] (qyz hlt);have b1:(0:Int)<=(k:Int):=by omega
    have b2:(k:Int)<(W.length:Int):=by omega
    have hqw:wr.cell? ⟨q,0,none⟩=some (.int .i64 s):=hu.ja hq (fun h=>h);have hu2:Upd (fun _=>False) w (wr.alloc (.cells (wrC (W[k].1:Int) W[k].2).toArray 289)):=hu.alloc _;have hr2:=zh (zc wr (.cells (wrC (W[k].1:Int) W[k].2).toArray 289) rfl);have hc:=EE (wr.alloc (.cells (wrC (W[k].1:Int) W[k].2).toArray 289)) q s (zm hqw _) W[k].1 W[k].2 (by omega);generalize W[k].1=x at*;generalize W[k].2=y at*;have HC:=Y2 hc hu2;clear h hc hs hq hlw hu hg hsz hqn hqw hu2;go_wp2_with (first
     |refine qZg rfl _ _ rfl _ _ rfl _ _ hr underlying289 rfl (vO _ _ h64) ?_
     |refine qZg rfl _ _ rfl _ _ rfl _ _ hr2 underlying289 rfl (vO _ _ h64) ?_
     |(refine zk rfl _ _ _ rfl _ _ _ rfl rfl (by rw[tY,wrC_len,h64]) (vO _ _ h64) (vW _ _) ?_)
     |fail)
    refine HC.o.1.mono ?_;rintro e w3 ⟨rfl,hb3⟩;have hu3:Upd (fun _=>False) w w3:=HC.o.2.trans (uuo hb3);clear hb3;go_wp2
    go_roundw
    case rel=>exact⟨k+1,by omega,by omega,rfl,by go_num,hu3⟩
    case measure=>simp[intOf];omega
   .obtain rfl:k=W.length:=by omega
    obtain⟨h,hq,hs,hg,hsz,hqn⟩:=HH.o;have hg2:=(hu.block _ (zf hg) (fun h=>h)).trans hg;have hle:=qYb 65 hcap;obtain⟨w3,hrun,hu3,cur3,hg3,hz3⟩:=Zs (off:=off) (n:=W.length) (cap:=cap) hg2 (by omega) hl;have HF:=Y5 hu hu3 hg3 hz3 hsz;clear h hq hs hg hsz hqn hu hu3 hg3 hg2 hz3 hle;go_wp2
    go_ret
    refine⟨_,rfl,⟨by simp,.inr ⟨g,off,cap,cur3,rfl,HF.o.2.2.1,by omega,by unfold maxLen;omega,by rw[HF.o.2.2.2.1];exact HF.o.2.2.2.2,by simp⟩⟩,rfl,(HF.o.1.mono (fun _ _ h=>h.elim)).trans (HF.o.2.1.mono (fun k _ e=>by simp[Value.ownBlock,e]))⟩
def Jc(S:Nat->Prop)(w:World)(j d base n next:Nat)(e:Ending)(w':World):Prop:=e=.returned (.int .i64 0)/\Jn S w' j d base n (next-1) next []/\Upd S w w'
theorem Aj{S:Nat->Prop}{w:World}{j d base n cov next:Nat}{W:List (Nat×Bk)}(h:Jn S w j d base n cov next W)(s:Int)(hs:s=(next:Int)-1):
  Calls prog 155 #[.pointer (some ⟨j,0,none⟩),.int .i64 s] w (Jc S w j d base n next):=by
 obtain⟨vw,h,hS⟩:=h;have hu1:Upd (fun _=>False) w (w.alloc (.cells #[.int .i64 s] 3)):=(uur _ w).alloc _;have hq:(w.alloc (.cells #[.int .i64 s] 3)).cell? ⟨w.heap.size,0,none⟩=some (.int .i64 s):=za (zc w _ rfl) 0;have hd1:=h.new hu1;have hjl:=zf h.str;have hwl:=h.good.wl;have hmx:=h.good.mx;have hmf:=qqf;have q1:decide (s<(cov:Int))=false:=by simp;omega
 have q2:decide ((next:Int)<=s)=false:=by simp;omega
 have hqn:vw.ownBlock≠some w.heap.size:=fun e=>by have:=h.ws.lt e;omega
 have HA:=Y5 h hu1 hqn hs hS;clear h hqn hs hS;go_enter func155,ntmps155
 go_wp2_with fail
 have HD:=Y2 hd1 hq;generalize hW1:w.alloc (.cells #[.int .i64 s] 3)=w1 at*;have hm:w.heap.size<w1.heap.size:=by rw[<-hW1];simp
 clear hW1;obtain⟨c0,c1,c2,c3,c4,c5⟩:=hd1.c;clear hd1 hu1
 go_quiet(fail)
 have hu2:Upd (fun _=>False) w1 (w1.drewN nq):=(uur _ _).drewN nq;generalize w1.drewN nq=w2 at*;obtain⟨h,hu1,hqn,hs,hS⟩:=HA.o;have hd2:=HD.o.1.new hu2;have hq2:w2.cell? ⟨w.heap.size,0,none⟩=some (.int .i64 s):=hu2.ja HD.o.2 (fun h=>h);clear c0 c1 c2 c3 c4 c5;obtain⟨c0,c1,c2,c3,c4,c5⟩:=hd2.c;have f3:=hd2.fz 3;have hs3:=zi hd2.str 3 (.int .i64 s);have hu3:=zj w2 j 3 (.int .i64 s);have hq3:(w2.setCell ⟨j,3,none⟩ (.int .i64 s)).cell? ⟨w.heap.size,0,none⟩=some (.int .i64 s):=(hu3.ja hq2 (by omega))
 have hne:vw.ownBlock≠some j:=hd2.wb;have hw3:=hd2.wt.keep hu3 (fun k hk e=>hne (by rw[hk,e]));have HB:=qqh (zcv hw3 w.heap.size s hq3 hqn hs);have HC:=Y8 hd2 hu2 hs3 hu3 hu1 hS hs hqn;have c0':=c0;have c5':(w2.setCell ⟨j,3,none⟩ (.int .i64 s)).cell? ⟨j,5,none⟩=some vw:=by rw[za hs3];rfl
 obtain⟨ao,c,hv⟩:=hd2.ws.rd.jd;clear hd2 hu2 hs3 hu3 hu1 hS hs hqn hw3 hne hq3 h c1 c2 c4 c0';subst hv;generalize hW3:w2.setCell ⟨j,3,none⟩ (.int .i64 s)=w3 at*;go_wp2_with fail
 refine HB.o.mono ?_;rintro e w4 ⟨v4,rfl,hs4,ho4,hu4⟩;obtain⟨ao4,c4,rfl⟩:=hs4.rd.jd;obtain⟨hd2,hu2,hs3,hu3,hu1,hS,hs,hqn⟩:=HC.o;have hs4':=(hu4.block _ (zf hs3) hd2.wb).trans hs3;have d0:w4.cell? ⟨j,5,none⟩=some (.slice ao W.length c):=by rw[za hs4'];rfl
 have d1:=zg hs4' 5;have HE:=Y4 hs4 ho4 hu4 hs4';clear hs4 ho4 hu4 hs4' hd2 hu2 hs3 hu3 hu1 hS hs hqn c0 c3 c5 c5' f3 hq2;go_wp2
 go_ret
 obtain⟨hd2,hu2,hs3,hu3,hu1,hS,hs,hqn⟩:=HC.o;obtain⟨hs4,ho4,hu4,hs4'⟩:=HE.o;have hu5:=zj w4 j 5 (.slice ao4 0 c4);have h5:=zi hs4' 5 (.slice ao4 0 c4);have hnb:(Value.slice ao4 0 c4).ownBlock≠some j:=by rw[ho4];exact hd2.wb
 have hgd:=hd2.good;have hss:s=((next-1:Nat):Int):=by have:=hgd.wl;omega
 refine⟨rfl,⟨.slice ao4 0 c4,⟨?_,hs4.jN hu5 hnb,hnb,⟨by simp,by simp,hgd.n1,by simp;have:=hgd.wl;omega,by have:=hgd.n1;omega,hgd.mx,hgd.bs⟩⟩,?_⟩,?_⟩
 .rw [h5,<-hss];rfl
 .rintro k (rfl|hk)
  .exact hS _ (.inl rfl)
  .rw [ho4]at hk;exact hS _ (.inr hk)
 .have a1:Upd S w w2:=(hu1.trans hu2).mono (fun _ _ h=>h.elim);have a2:Upd S w2 w3:=hu3.mono (fun k _ e=>e▸hS j (.inl rfl));have a3:Upd S w3 w4:=hu4.mono (fun k _ e=>hS k (.inr e));have a4:Upd S w4 (w4.setCell ⟨j,5,none⟩ (.slice ao4 0 c4)):=hu5.mono (fun k _ e=>e▸hS j (.inl rfl));exact((a1.trans a2).trans a3).trans a4
theorem Jd:(prog.info? 289).map (fun i=>(i.zero.map (·.cells.size),i.size,i.bytes))=some (some 65,65,72):=by kernel_rfl
theorem UD:(match prog.underlying 289 with|some (.struct fs)=>fs.toList.mapM (fun f=>(prog.info? f.type).map fun i=>(f.offset,i.size))|_=>none)=some [(0,1),(1,64)]:=by kernel_rfl
theorem xE:∃i z,prog.info? 289=some i/\i.zero=some z/\z.cells.size=65/\i.size=65/\i.bytes=72:=by
 obtain⟨i,hi,h⟩:=qYi.1 Jd;simp only[qYk]at h;obtain⟨h1,h2,h3⟩:=h;obtain⟨z,hz,hs⟩:=qYi.1 h1;exact⟨i,z,hi,hz,hs,h2,h3⟩
theorem vF(p q:Value)(hp:p.cells.size=1)(hq:q.cells.size=64)(w:World):(Instr.build 289 #[(0,p),(1,q)]).run prog w=.ok (.agg (p.cells.toList++q.cells.toList).toArray) w:=by
 refine run_build w _ _ _ ?_;obtain⟨i,z,hi,hz,hs,_,_⟩:=xE;have hpl:=UD;have hu:=underlying289;unfold Program.built;rw[hu]at hpl;rw[hi,hu];simp only[hz];simp only at hpl;rw[hpl];exact Yn p q hp hq z.cells hs _ rfl rfl
theorem tx(v:Value)(hv:v.cells.size=65)(w:World):(Instr.buildSlice 274 1 #[(0,v)]).run prog w=.ok (.slice (some ⟨w.heap.size,0,none⟩) 1 1) (w.alloc (.cells v.cells 289)):=by
 obtain⟨i,z,hi,hz,hs,hsz,_⟩:=xE;refine run_buildSlice w _ _ 1 _ _ i z underlying274 hi hz (by rw[hsz];decide) (by rw[hsz];decide) ?_;obtain⟨a1,a2⟩:=yL 0 v.cells ((Array.range (1*i.size)).map (z.cells[·%z.cells.size]!));rw[show(#[(0,v)]:Array (Nat×Value)).toList=[(0,v)]from rfl];rw[xj _ _ 0 0 65 v _ (by simp[hsz]) hv (by simp[hsz])];show some _=_
 congr 1
 apply qxd
 intro k;rw[a2 k];by_cases hk:k<65
 .rw [if_pos ⟨by omega,by omega,by simp[hsz];omega⟩];rfl
 .rw [if_neg (by omega),qxf (by simp[hsz];omega),qxf (by omega)]
theorem Zt(dst:Option Tmp)(ty:TypeId)(pos:String)(after:Array Edge)(p q:Operand)(a:Act)(w:World)(K:Act->World->Prop)(Q:Exit->Act->World->Prop)(hp:(a.eval p).cells.size=1)(hq:(a.eval q).cells.size=64):
  Oper.wp prog {dst:=dst,op:=.build 289 #[(0,p),(1,q)],type:=ty,pos:=pos,after:=after,guard:=none} a w K Q=K (a.put dst (.agg ((a.eval p).cells.toList++(a.eval q).cells.toList).toArray)) w:=by
 unfold Oper.wp execOp;have:=vF (a.eval p) (a.eval q) hp hq w;simp only[qzp,qzm,qzo,qYm,this,qYl];rfl
theorem Wi(dst:Option Tmp)(ty:TypeId)(pos:String)(after:Array Edge)(p:Operand)(a:Act)(w:World)(K:Act->World->Prop)(Q:Exit->Act->World->Prop)(hp:(a.eval p).cells.size=65):
  Oper.wp prog {dst:=dst,op:=.buildSlice 274 1 #[(0,p)],type:=ty,pos:=pos,after:=after,guard:=none} a w K Q=K (a.put dst (.slice (some ⟨w.heap.size,0,none⟩) 1 1)) (w.alloc (.cells (a.eval p).cells 289)):=by
 unfold Oper.wp execOp;have:=tx (a.eval p) hp w;simp only[qzp,qzm,qzo,qYm,this,qYl];rfl
theorem qN(a:Act)(p q:Operand)(w:World)(hp:(a.eval p).cells.size=1)(hq:(a.eval q).cells.size=64):
  (Instr.build 289 ((#[(0,p),(1,q)]:Array (Nat×Operand)).map fun(i,x)=>(i,a.eval x))).run prog w=.ok (.agg ((a.eval p).cells.toList++(a.eval q).cells.toList).toArray) w:=by
 have:=vF (a.eval p) (a.eval q) hp hq w;simp only[qzp,qzm,qzo];exact this
theorem Zu(a:Act)(p:Operand)(w:World)(hp:(a.eval p).cells.size=65):
  (Instr.buildSlice 274 1 ((#[(0,p)]:Array (Nat×Operand)).map fun(i,x)=>(i,a.eval x))).run prog w=.ok (.slice (some ⟨w.heap.size,0,none⟩) 1 1) (w.alloc (.cells (a.eval p).cells 289)):=by
 have:=tx (a.eval p) hp w;simp only[qzp,qzm,qzo];exact this
theorem UE(s:Int)(x:Bk)(hx:x.length=64):List.foldl (fun(cs:Array Value) (x:Value×Nat)=>cs.setIfInBounds (1+x.2) x.1) (Tryz.zeroCells289.setIfInBounds 0 (.int .i64 s)) (bkC x).zipIdx=(wrC s x).toArray:=by
 have hb:(bkC x).length=64:=by rw[zn,hx]
 have hz1:(Tryz.zeroCells289.setIfInBounds 0 (.int .i64 s)).size=65:=by rw[Array.size_setIfInBounds,tY]
 obtain⟨_,f2⟩:=Go.Great.foldl_set 1 (bkC x) 0 (Tryz.zeroCells289.setIfInBounds 0 (.int .i64 s));apply qxd
 intro k;rw[f2 k,hz1];by_cases hk:k<65
 .by_cases hk0:k=0
  .subst hk0;rw[if_neg (by omega),Array.getElem?_setIfInBounds_self_of_lt (by rw[tY];omega)];simp
  .rw [if_pos ⟨by omega,by omega,hk⟩];obtain⟨m,rfl⟩:∃m,k=m+1:=⟨k-1,by omega⟩
   simp
 .rw [if_neg (by omega),qxf (by omega),qxf (by simp[hb];omega)]
theorem zbv{T:Nat->Prop}{w:World}{j d base n cov next:Nat}{vw:Value}{W:List (Nat×Bk)}(h:JnAt w j vw d base n cov next W){g0:Nat}(c0:w.cell? ⟨g0,0,none⟩=some (.pointer (some ⟨j,0,none⟩)))
  {F:List Bk} {O:List (Nat×Bk)} {P:List Int} (hd:Dv T w d F O P) (hn:∀k,w.heap.size<=k->T k) (hTj:¬T j) (hTg:¬T g0) (s:Nat) (hs1:1<=s) (hs2:s<next) (y:Bk) (hy:y.length=64) (hbn:base+n<=F.length) (hO:O.length<65536):
  Calls prog 175 #[.agg (wrC (s:Int) y).toArray,.pointer (some ⟨g0,0,none⟩)] w (SK T w d (writeR F O P (base+(s-1)%n) y)):=by
 have hgd:=h.good;have hn1:=hgd.n1;have hbs:=hgd.bs;have hmx:=hgd.mx;obtain⟨w1,hw1⟩:=qqe (w.alloc (.cells (wrC (s:Int) y).toArray 289));have hu1:=qqu hw1;have hg1:=qqg hw1;obtain⟨r0,r1,r2,-,-,-⟩:=(h.new hu1).c;have rr:=zh hg1;have m0:w1.cell? ⟨w.heap.size,0,none⟩=some (.int .i64 (s:Int)):=za hg1 0;have rY:w1.rangeAt w.heap.size 1 (bkC y):=fun i v hv=>by
  have:=rr (1+i) v (by rw[Nat.add_comm];exact hv);rw[qYe]at this;exact this
 have hc0:=hu1.ja c0 (fun h=>h);obtain⟨lp,hlp⟩:=qqe ((s-1)%n);have hlp1:lp<n:=by rw[hlp];exact qYa _ (by omega)
 obtain⟨sc,hsc⟩:=qqe (base+lp);have k1:IntKind.i64.wrap ((s:Int)-1)=(s:Int)-1:=qxv _ (by omega);have k2:IntKind.i64.wrap (((s:Int)-1).tmod (n:Int))=(lp:Int):=by
  rw[show(s:Int)-1=((s-1:Nat):Int) by omega,<-Int.ofNat_tmod,<-hlp];exact qxv _ (by omega)
 have k3:IntKind.i64.wrap ((base:Int)+(lp:Int))=(sc:Int):=by
  rw[hsc,qxt];exact qxv _ (by omega)
 have k4:IntKind.i64.wrap ((base:Int)+((s:Int)-1).tmod (n:Int))=(sc:Int):=by
  rw[show(s:Int)-1=((s-1:Nat):Int) by omega,<-Int.ofNat_tmod,<-hlp];exact k3
 have hn0:¬n=0:=by omega
 have hut:=underlying54;have hsi:=zw y hy;have hsF:sc<F.length:=by omega
 have hd1:Dv (fun k=>T k/\k≠w.heap.size) w1.drew d F O P:=((hd.but (qXv _)).keep hu1 (fun _ _ h=>h)).keep ((uur (fun _=>False) _).drew) (fun _ _ h=>h);have hw1s:w.heap.size+1<=w1.drew.heap.size:=by rw[hw1];simp
 have hu1d:Upd T w w1.drew:=(hu1.drew).mono (fun _ _ h=>h.elim);rw[<-hlp,<-hsc];have HD:=Y6 hd1 (fun k (hk:w1.drew.heap.size<=k)=>(⟨hn k (by omega),by omega⟩:T k/\k≠w.heap.size)) hsF hy hO hu1d;have HW1:=qqh hw1;have HT:=Y2 hTj hTg;obtain⟨m,hm⟩:=qqe (w.heap.size);rw[<-hm]at m0 rY HD;have HM:=qqh hm;clear hTj hTg hd1 hn hsF hO hw1s hu1d hw1 hu1 hg1 hd h c0 hgd rr hlp hsc hlp1 hy hm hbn hbs hmx hs1 hs2 hn1;go_enter func175,ntmps175
 go_wp2
 rw[<-HW1.o,<-HM.o];refine qZj (S:=fun W=>W.cell? ⟨g0,0,none⟩=some (.pointer (some ⟨j,0,none⟩))/\W.cell? ⟨j,0,none⟩=some (.pointer (some ⟨d,0,none⟩))/\W.cell? ⟨j,1,none⟩=some (.int .i64 (base:Int))/\W.cell? ⟨j,2,none⟩=some (.int .i64 (n:Int))/\W.cell? ⟨m,0,none⟩=some (.int .i64 (s:Int))/\W.rangeAt m 1 (bkC y)) (by kernel_rfl) (by(simp only[qYo,qYq]);exact⟨hc0,r0,r1,r2,m0,rY⟩) (fun hHeld=>?_);refine Wl.i [0,1,2,3,4,5,6,7,8,9,10,11,12,13,14,15,16,17] ?_;iterate 18 refine Wl.t hHeld ?_
 refine Wl.o ?_;refine Wl.l 18 (fun w h=>h.2.2.2.2.2) hut hsi hHeld ?_;refine Wl.r 19 (fun K hK=>?_);go_simp
 refine(wZ HD.o.1 HD.o.2.1 sc HD.o.2.2.1 y HD.o.2.2.2.1 HD.o.2.2.2.2.1).mono ?_;rintro e w2 ⟨rfl,hd2,hu2⟩;have H2:=Y3 hd2 (((uur (fun k=>T k/\k≠m) w1).drew).trans hu2) (HD.o.2.2.2.2.2.trans (hu2.mono (fun k _ h=>h.1)));clear hd2 hu2;have hTj:∀k,(T k/\k≠m)->¬k=j:=fun k hk e=>HT.o.1 (e▸hk.1);have hTg:∀k,(T k/\k≠m)->¬k=g0:=fun k hk e=>HT.o.2 (e▸hk.1);refine hK.o _ _ (⟨H2.o.2.1.ja hc0 (fun h=>hTg _ h rfl),H2.o.2.1.ja r0 (fun h=>hTj _ h rfl),H2.o.2.1.ja r1 (fun h=>hTj _ h rfl),H2.o.2.1.ja r2 (fun h=>hTj _ h rfl),H2.o.2.1.ja m0 (fun h=>h.2 rfl),H2.o.2.1.range rY (fun h=>h.2 rfl)⟩) (fun hH1=>?_);clear hK K;refine Wl.r 20 (fun K hK=>?_);go_simp
 refine hK.o _ _ (hH1) (fun hH2=>?_);clear hK K;refine Wl.d ?_;go_wp2
 go_ret
 exact⟨rfl,H2.o.1.wide (fun k h=>h.1),H2.o.2.2⟩
end Go.Proofs.YtfhfbpmlnjdfoaaGreatDoor
