/- A journal: Cov -/
import Derived.Test.YtfhfbpmlnjdfoaaGreatDoorG07
import Derived.Lib.SliceRun
set_option maxRecDepth 100000
set_option maxHeartbeats 4000000
namespace Go.Proofs.YtfhfbpmlnjdfoaaGreatDoor
open Go Go.RowKit Tryz
section
theorem AE:(prog.info? 289).map (fun i=>(i.zero.map (fun z=>(z.cells.size,z.cells.all (·.oneCell'))),i.size))=some (some (65,true),65):=kR
theorem Zw:∃i z,prog.info? 289=some i/\i.zero=some z/\z.cells.size=65/\z.cells.all (·.oneCell')=true/\i.size=65:=by
 obtain⟨i,hi,h⟩:=qYi.1 AE;simp only[qYk]at h;obtain⟨h1,h2⟩:=h;obtain⟨z,hz,hs⟩:=qYi.1 h1;simp only[qYk]at hs;exact⟨i,z,hi,hz,hs.1,hs.2,h2⟩
theorem Zx{w:World}{g off n cap:Nat}{cur:Array Value}(hg:w.heap[g]?=some (.cells cur 289 (0,0)))(hs:off+n*65<=cur.size)(hn:0<n):
  ∃w',(∀ty,(Builtin.clear_ #[274] ty #[.slice (some ⟨g,off,none⟩) n cap]).run prog w=.ok (.tuple #[]) w')/\Upd (fun j=>j=g) w w'/\
   ∃cur',w'.heap[g]?=some (.cells cur' 289 (0,0))/\cur'.size=cur.size:=by
 obtain⟨i,z,hi,hz,hzs,hz1,hsz⟩:=Zw;have hlen:(Builtin.zeroCells z.cells n).toList.length=n*65:=by simp[Builtin.zeroCells,hzs]
 have h1:∀v∈(Builtin.zeroCells z.cells n).toList,v.oneCell'=true:=by
  intro v hv;simp only[Builtin.zeroCells,Array.toList_map,qzv]at hv;obtain⟨k,hk,rfl⟩:=hv;have:k%z.cells.size<z.cells.size:=qYa _ oM;rw[getElem!_pos z.cells (k%z.cells.size) this];exact Array.all_eq_true.1 hz1 _ this
 have hst:=run_storeCells_cells (P:=prog) g off (Builtin.zeroCells z.cells n).toList 0 w
  (fun j hj=>by rw[hlen]at hj;rw[za hg,qXs,qxe oM];rfl) (fun j hj=>zg hg _) h1
 simp only[qXs]at hst;obtain⟨cur',h2,h3,-⟩:=zC (Builtin.zeroCells z.cells n).toList off w g cur _ _ hg;have hzr:∀w,(zeroValue 289).run prog w=.ok z w:=fun w=>by simp[zeroValue,typeInfo,hi,hz]
 refine⟨_,fun ty=>?_,yq _ w g off _ rfl,cur',h2,h3⟩;obtain⟨m,rfl⟩:∃m,n=m+1:=⟨n-1,oM⟩
 simp[Builtin.clear_,run_underlying underlying274,hzr,hst]
abbrev zch(q:Nat):Value:=.func (.func 219) #[] #[.pointer (some ⟨q,0,none⟩)]
theorem zdn{w:World}{next:Nat}{vw:Value}{W:List (Nat×Bk)}(h:WtAt w vw next W)(q:Nat)(s:Int)(hq:w.cell? ⟨q,0,none⟩=some (.int .i64 s))(hs:s=(next:Int)-1):
  Calls prog 285 #[vw,zch q] w fun e w'=>e=.returned (.int .i64 (if W=[]then-1 else 0))/\Below w.heap.size w w':=by
 by_cases h0:W=[]
 .subst h0;rw[if_pos rfl];obtain⟨ao,c,rfl⟩:=h.ws.rd.j7;clear h;go_enter func285,ntmps285
  go_wp2
  go_loop [8] (fun i=>i=.int .i64 0) (fun _=>0)
  case atStart=>rfl
  case round=>
   subst hrel;go_wp2
   go_ret
   exact⟨rfl,qxl _ _⟩
 .rw [if_neg h0];have hl:0<W.length:=by cases W with|nil=>exact absurd rfl h0|cons a l=>simp
  obtain⟨g,off,cap,rfl,hgl,hcap,hr⟩:=h.range hl;have hlt:=h.lt W[0] (qyz hl);have h64:=h.w64 W[0] (qyz hl);have hwl:=h.wl;have hmx:=h.mx;rw[qYg,qXs]at hr;have b1:(0:Int)<(W.length:Int):=oM;have hc:=EZ w q s hq W[0].1 W[0].2 oM;generalize W[0].1=x at*;generalize W[0].2=y at*;have HC:=qqh hc;clear h h0 hc hs hq hlt;generalize W.length=m at*;go_enter func285,ntmps285
  go_wp2
  go_loop [8] (fun i=>i=.int .i64 0) (fun _=>0)
  case atStart=>rfl
  case round=>
   subst hrel;go_wp2_with (first
    |refine qZg rfl _ _ rfl _ _ rfl _ _ hr underlying289 rfl (vV _ _ h64) ?_
    |fail)
   refine HC.o.mono ?_;rintro e w' ⟨rfl,hb⟩;go_wp2
   go_ret
   exact⟨rfl,hb⟩
def Jr(w:World)(vw:Value)(e:Ending)(w':World):Prop:=∃v',e=.returned v'/\Sl w' 289 65 v' 0 []/\v'.ownBlock=vw.ownBlock/\Upd (fun k=>vw.ownBlock=some k) w w'
theorem zdo{w:World}{next:Nat}{vw:Value}{W:List (Nat×Bk)}(h:WtAt w vw next W)(q:Nat)(s:Int)(hq:w.cell? ⟨q,0,none⟩=some (.int .i64 s))(hqn:vw.ownBlock≠some q)(hs:s=(next:Int)-1):
  Calls prog 218 #[vw,zch q] w (Jr w vw):=by
 have HI:=qqh (zdn h q s hq hs);by_cases h0:W=[]
 .subst h0;rw[if_pos rfl]at HI;have HH:=qqh h;clear h hq hs hqn;go_enter func218,ntmps218
  go_wp2_with fail
  refine HI.o.mono ?_;rintro e w' ⟨rfl,hb⟩;go_wp2
  go_ret
  exact⟨vw,rfl,(HH.o.new (uuo hb)).ws,rfl,(uuo hb)⟩
 .rw [if_neg h0]at HI;have hl:0<W.length:=by cases W with|nil=>exact absurd rfl h0|cons a l=>simp
  obtain⟨-,⟨_,h2⟩|⟨g,off,cap,cur,rfl,hg,hcap,hcm,hsz,-⟩⟩:=h.ws
  .omega
  unfold maxLen at hcm;have hwl:=h.wl;have hmx:=h.mx;have HH:=Y6 h hq hs hg hsz hqn;clear h hq hs h0 hg hsz hqn;go_enter func218,ntmps218
  go_wp2_with fail
  refine HI.o.mono ?_;rintro e w1 ⟨rfl,hb⟩;have hu1:=qqb hb;clear hb;go_wp2
  go_loopw[5,6] (fun s5 s6 wr=>∃k:Nat,1<=k/\k<=W.length/\s5=.int .i64 0/\s6=.int .i64 k/\Upd (fun _=>False) w wr) (fun _ s6 _=>W.length-(intOf s6).toNat)
  case atStart=>exact⟨1,oM,oM,rfl,rfl,hu1⟩
  case round=>
   obtain⟨k,hk1,hk,rfl,rfl,hu⟩:=hrel;by_cases hlt:k<W.length
   .obtain ⟨h,hq,hs,hg,hsz,hqn⟩:=HH.o;obtain⟨g',off',cap',e1,hgl,hcap',hr⟩:=(h.new hu).range hlt;cases e1;have hlw:=h.lt W[k] (qyz hlt);have h64:=h.w64 W[k] (qyz hlt);have b1:(0:Int)<=(k:Int):=oM;have b2:(k:Int)<(W.length:Int):=oM;have hqw:wr.cell? ⟨q,0,none⟩=some (.int .i64 s):=hu.j4 hq id;have hu2:Upd (fun _=>False) w (wr.alloc (.cells (wrC (W[k].1:Int) W[k].2).toArray 289)):=hu.alloc _;have hr2:=zh (zc wr (.cells (wrC (W[k].1:Int) W[k].2).toArray 289) rfl);have hc:=EZ (wr.alloc (.cells (wrC (W[k].1:Int) W[k].2).toArray 289)) q s (zm hqw _) W[k].1 W[k].2 oM;generalize W[k].1=x at*;generalize W[k].2=y at*;have HC:=Y2 hc hu2;clear h hc hs hq hlw hu hg hsz hqn hqw hu2;go_wp2_with (first
     |refine qZg rfl _ _ rfl _ _ rfl _ _ hr underlying289 rfl (vV _ _ h64) ?_
     |refine qZg rfl _ _ rfl _ _ rfl _ _ hr2 underlying289 rfl (vV _ _ h64) ?_
     |(refine zl rfl _ _ _ rfl _ _ _ rfl rfl (by rw[qh,wrC_len,h64]) (vV _ _ h64) (ug _ _) ?_)
     |fail)
    refine HC.o.1.mono ?_;rintro e w3 ⟨rfl,hb3⟩;have hu3:Upd (fun _=>False) w w3:=HC.o.2.trans (uuo hb3);clear hb3;go_wp2
    go_roundw
    case rel=>exact⟨k+1,oM,oM,rfl,by go_num,hu3⟩
    case measure=>simp[intOf];omega
   .obtain rfl:k=W.length:=oM;obtain⟨h,hq,hs,hg,hsz,hqn⟩:=HH.o;have hg2:=(hu.block _ (zf hg) id).trans hg;have hle:=qYb 65 hcap;obtain⟨w3,hrun,hu3,cur3,hg3,hz3⟩:=Zx (off:=off) (n:=W.length) (cap:=cap) hg2 oM hl;have HF:=Y5 hu hu3 hg3 hz3 hsz;clear h hq hs hg hsz hqn hu hu3 hg3 hg2 hz3 hle;go_wp2
    go_ret
    refine⟨_,rfl,⟨oe,.inr ⟨g,off,cap,cur3,rfl,HF.o.2.2.1,oM,by unfold maxLen;omega,by rw[HF.o.2.2.2.1];exact HF.o.2.2.2.2,oe⟩⟩,rfl,(HF.o.1.mono fE).trans (HF.o.2.1.mono (fun k _ e=>by simp[Value.ownBlock,e]))⟩
def Js(S:Nat->Prop)(w:World)(j d base n next:Nat)(e:Ending)(w':World):Prop:=e=.returned (.int .i64 0)/\Jn S w' j d base n (next-1) next []/\Upd S w w'
theorem AF{S:Nat->Prop}{w:World}{j d base n cov next:Nat}{W:List (Nat×Bk)}(h:Jn S w j d base n cov next W)(s:Int)(hs:s=(next:Int)-1):
  Calls prog 155 #[.pointer (some ⟨j,0,none⟩),.int .i64 s] w (Js S w j d base n next):=by
 obtain⟨vw,h,hS⟩:=h;have hu1:Upd (fun _=>False) w (w.alloc (.cells #[.int .i64 s] 3)):=(uur _ w).alloc _;have hq:(w.alloc (.cells #[.int .i64 s] 3)).cell? ⟨w.heap.size,0,none⟩=some (.int .i64 s):=za (zc w _ rfl) 0;have hd1:=h.new hu1;have hjl:=zf h.str;have hwl:=h.good.wl;have hmx:=h.good.mx;have hmf:=qqf;have q1:decide (s<(cov:Int))=false:=by simp;omega
 have q2:decide ((next:Int)<=s)=false:=by simp;omega
 have hqn:vw.ownBlock≠some w.heap.size:=fun e=>by have:=h.ws.lt e;omega
 have HA:=Y5 h hu1 hqn hs hS;clear h hqn hs hS;go_enter func155,ntmps155
 go_wp2_with fail
 have HD:=Y2 hd1 hq;generalize hW1:w.alloc (.cells #[.int .i64 s] 3)=w1 at*;have hm:w.heap.size<w1.heap.size:=by rw[<-hW1];simp
 clear hW1;obtain⟨c0,c1,c2,c3,c4,c5⟩:=hd1.c;clear hd1 hu1
 go_quiet(fail)
 have hu2:Upd (fun _=>False) w1 (w1.drewN nq):=(uur _ _).drewN nq;generalize w1.drewN nq=w2 at*;obtain⟨h,hu1,hqn,hs,hS⟩:=HA.o;have hd2:=HD.o.1.new hu2;have hq2:w2.cell? ⟨w.heap.size,0,none⟩=some (.int .i64 s):=hu2.j4 HD.o.2 id;clear c0 c1 c2 c3 c4 c5;obtain⟨c0,c1,c2,c3,c4,c5⟩:=hd2.c;have f3:=hd2.fz 3;have hs3:=zi hd2.str 3 (.int .i64 s);have hu3:=zj w2 j 3 (.int .i64 s);have hq3:(w2.setCell ⟨j,3,none⟩ (.int .i64 s)).cell? ⟨w.heap.size,0,none⟩=some (.int .i64 s):=(hu3.j4 hq2 oM)
 have hne:vw.ownBlock≠some j:=hd2.wb;have hw3:=hd2.wt.keep hu3 (fun k hk e=>hne (by rw[hk,e]));have HB:=qqh (zdo hw3 w.heap.size s hq3 hqn hs);have HC:=Y8 hd2 hu2 hs3 hu3 hu1 hS hs hqn;have c0':=c0;have c5':(w2.setCell ⟨j,3,none⟩ (.int .i64 s)).cell? ⟨j,5,none⟩=some vw:=by rw[za hs3];rfl
 obtain⟨ao,c,hv⟩:=hd2.ws.rd.j7;clear hd2 hu2 hs3 hu3 hu1 hS hs hqn hw3 hne hq3 h c1 c2 c4 c0';subst hv;generalize hW3:w2.setCell ⟨j,3,none⟩ (.int .i64 s)=w3 at*;go_wp2_with fail
 refine HB.o.mono ?_;rintro e w4 ⟨v4,rfl,hs4,ho4,hu4⟩;obtain⟨ao4,c4,rfl⟩:=hs4.rd.j7;obtain⟨hd2,hu2,hs3,hu3,hu1,hS,hs,hqn⟩:=HC.o;have hs4':=(hu4.block _ (zf hs3) hd2.wb).trans hs3;have d0:w4.cell? ⟨j,5,none⟩=some (.slice ao W.length c):=by rw[za hs4'];rfl
 have d1:=zg hs4' 5;have HE:=Y4 hs4 ho4 hu4 hs4';clear hs4 ho4 hu4 hs4' hd2 hu2 hs3 hu3 hu1 hS hs hqn c0 c3 c5 c5' f3 hq2;go_wp2
 go_ret
 obtain⟨hd2,hu2,hs3,hu3,hu1,hS,hs,hqn⟩:=HC.o;obtain⟨hs4,ho4,hu4,hs4'⟩:=HE.o;have hu5:=zj w4 j 5 (.slice ao4 0 c4);have h5:=zi hs4' 5 (.slice ao4 0 c4);have hnb:(Value.slice ao4 0 c4).ownBlock≠some j:=by rw[ho4];exact hd2.wb
 have hgd:=hd2.good;have hss:s=((next-1:Nat):Int):=by have:=hgd.wl;omega
 refine⟨rfl,⟨.slice ao4 0 c4,⟨?_,hs4.kQ hu5 hnb,hnb,⟨oe,oe,hgd.n1,by simp;have:=hgd.wl;omega,by have:=hgd.n1;omega,hgd.mx,hgd.bs⟩⟩,?_⟩,?_⟩
 .rw [h5,<-hss];rfl
 .rintro k (rfl|hk)
  .exact hS _ (.inl rfl)
  .rw [ho4]at hk;exact hS _ (.inr hk)
 .have a1:Upd S w w2:=(hu1.trans hu2).mono fE;have a2:Upd S w2 w3:=hu3.mono (fun k _ e=>e▸hS j (.inl rfl));have a3:Upd S w3 w4:=hu4.mono (fun k _ e=>hS k (.inr e));have a4:Upd S w4 (w4.setCell ⟨j,5,none⟩ (.slice ao4 0 c4)):=hu5.mono (fun k _ e=>e▸hS j (.inl rfl));exact((a1.trans a2).trans a3).trans a4
theorem Jt:(prog.info? 289).map (fun i=>(i.zero.map (·.cells.size),i.size,i.bytes))=some (some 65,65,72):=kR
theorem UU:(match prog.underlying 289 with|some (.struct fs)=>fs.toList.mapM (fun f=>(prog.info? f.type).map fun i=>(f.offset,i.size))|_=>none)=some [(0,1),(1,64)]:=kR
theorem xK:∃i z,prog.info? 289=some i/\i.zero=some z/\z.cells.size=65/\i.size=65/\i.bytes=72:=by
 obtain⟨i,hi,h⟩:=qYi.1 Jt;simp only[qYk]at h;obtain⟨h1,h2,h3⟩:=h;obtain⟨z,hz,hs⟩:=qYi.1 h1;exact⟨i,z,hi,hz,hs,h2,h3⟩
theorem vL(p q:Value)(hp:p.cells.size=1)(hq:q.cells.size=64)(w:World):(Instr.build 289 #[(0,p),(1,q)]).run prog w=.ok (.agg (p.cells.toList++q.cells.toList).toArray) w:=by
 refine run_build w _ _ _ ?_;obtain⟨i,z,hi,hz,hs,_,_⟩:=xK;have hpl:=UU;have hu:=underlying289;unfold Program.built;rw[hu]at hpl;rw[hi,hu];simp only[hz];simp only at hpl;rw[hpl];exact Yx p q hp hq z.cells hs _ rfl rfl
theorem tN(v:Value)(hv:v.cells.size=65)(w:World):(Instr.buildSlice 274 1 #[(0,v)]).run prog w=.ok (.slice (some ⟨w.heap.size,0,none⟩) 1 1) (w.alloc (.cells v.cells 289)):=by
 obtain⟨i,z,hi,hz,hs,hsz,_⟩:=xK;refine run_buildSlice w _ _ 1 _ _ i z underlying274 hi hz jC jC ?_;obtain⟨a1,a2⟩:=yP 0 v.cells ((Array.range (1*i.size)).map (z.cells[·%z.cells.size]!));rw[show(#[(0,v)]:Array (Nat×Value)).toList=[(0,v)]from rfl];rw[xr _ _ 0 0 65 v _ jL hv jL];show some _=_
 congr 1
 apply qxd
 intro k;rw[a2 k];by_cases hk:k<65
 .rw [if_pos ⟨oM,oM,by simp[hsz];omega⟩];rfl
 .rw [if_neg oM,qxf kf,qxf oM]
theorem Zy(dst:Option Tmp)(ty:TypeId)(pos:String)(after:Array Edge)(p q:Operand)(a:Act)(w:World)(K:Act->World->Prop)(Q:Exit->Act->World->Prop)(hp:(a.eval p).cells.size=1)(hq:(a.eval q).cells.size=64):
  Oper.wp prog {dst:=dst,op:=.build 289 #[(0,p),(1,q)],type:=ty,pos:=pos,after:=after,guard:=none} a w K Q=K (a.put dst (.agg ((a.eval p).cells.toList++(a.eval q).cells.toList).toArray)) w:=by
 unfold Oper.wp execOp;have:=vL (a.eval p) (a.eval q) hp hq w;simp only[qzp,qzm,qzo,qYm,this,qYl];rfl
theorem Wv(dst:Option Tmp)(ty:TypeId)(pos:String)(after:Array Edge)(p:Operand)(a:Act)(w:World)(K:Act->World->Prop)(Q:Exit->Act->World->Prop)(hp:(a.eval p).cells.size=65):
  Oper.wp prog {dst:=dst,op:=.buildSlice 274 1 #[(0,p)],type:=ty,pos:=pos,after:=after,guard:=none} a w K Q=K (a.put dst (.slice (some ⟨w.heap.size,0,none⟩) 1 1)) (w.alloc (.cells (a.eval p).cells 289)):=by
 unfold Oper.wp execOp;have:=tN (a.eval p) hp w;simp only[qzp,qzm,qzo,qYm,this,qYl];rfl
theorem qR(a:Act)(p q:Operand)(w:World)(hp:(a.eval p).cells.size=1)(hq:(a.eval q).cells.size=64):
  (Instr.build 289 ((#[(0,p),(1,q)]:Array (Nat×Operand)).map fun(i,x)=>(i,a.eval x))).run prog w=.ok (.agg ((a.eval p).cells.toList++(a.eval q).cells.toList).toArray) w:=by
 have:=vL (a.eval p) (a.eval q) hp hq w;simp only[qzp,qzm,qzo];exact this
theorem Zz(a:Act)(p:Operand)(w:World)(hp:(a.eval p).cells.size=65):
  (Instr.buildSlice 274 1 ((#[(0,p)]:Array (Nat×Operand)).map fun(i,x)=>(i,a.eval x))).run prog w=.ok (.slice (some ⟨w.heap.size,0,none⟩) 1 1) (w.alloc (.cells (a.eval p).cells 289)):=by
 have:=tN (a.eval p) hp w;simp only[qzp,qzm,qzo];exact this
theorem UV(s:Int)(x:Bk)(hx:x.length=64):List.foldl (fun(cs:Array Value) (x:Value×Nat)=>cs.setIfInBounds (1+x.2) x.1) (Tryz.zeroCells289.setIfInBounds 0 (.int .i64 s)) (bkC x).zipIdx=(wrC s x).toArray:=by
 have hb:(bkC x).length=64:=by rw[zo,hx]
 have hz1:(Tryz.zeroCells289.setIfInBounds 0 (.int .i64 s)).size=65:=by rw[Array.size_setIfInBounds,qh]
 obtain⟨_,f2⟩:=Go.Great.foldl_set 1 (bkC x) 0 (Tryz.zeroCells289.setIfInBounds 0 (.int .i64 s));apply qxd
 intro k;rw[f2 k,hz1];by_cases hk:k<65
 .by_cases hk0:k=0
  .subst hk0;rw[if_neg oM,Array.getElem?_setIfInBounds_self_of_lt (by rw[qh];omega)];simp
  .rw [if_pos ⟨oM,oM,hk⟩];obtain⟨m,rfl⟩:∃m,k=m+1:=⟨k-1,oM⟩
   simp
 .rw [if_neg oM,qxf oM,qxf (by simp[hb];omega)]
theorem zci{T:Nat->Prop}{w:World}{j d base n cov next:Nat}{vw:Value}{W:List (Nat×Bk)}(h:JnAt w j vw d base n cov next W){g0:Nat}(c0:w.cell? ⟨g0,0,none⟩=some (.pointer (some ⟨j,0,none⟩)))
  {F:List Bk} {O:List (Nat×Bk)} {P:List Int} (hd:Dv T w d F O P) (hn:∀k,w.heap.size<=k->T k) (hTj:¬T j) (hTg:¬T g0) (s:Nat) (hs1:1<=s) (hs2:s<next) (y:Bk) (hy:y.length=64) (hbn:base+n<=F.length) (hO:O.length<65536):
  Calls prog 175 #[.agg (wrC (s:Int) y).toArray,.pointer (some ⟨g0,0,none⟩)] w (SX T w d (writeR F O P (base+(s-1)%n) y)):=by
 have hgd:=h.good;have hn1:=hgd.n1;have hbs:=hgd.bs;have hmx:=hgd.mx;obtain⟨w1,hw1⟩:=qqe (w.alloc (.cells (wrC (s:Int) y).toArray 289));have hu1:=qqu hw1;have hg1:=qqg hw1;obtain⟨r0,r1,r2,-,-,-⟩:=(h.new hu1).c;have rr:=zh hg1;have m0:w1.cell? ⟨w.heap.size,0,none⟩=some (.int .i64 (s:Int)):=za hg1 0;have rY:w1.rangeAt w.heap.size 1 (bkC y):=fun i v hv=>by
  have:=rr (1+i) v jv;rw[qYe]at this;exact this
 have hc0:=hu1.j4 c0 id;obtain⟨lp,hlp⟩:=qqe ((s-1)%n);have hlp1:lp<n:=by rw[hlp];exact qYa _ oM
 obtain⟨sc,hsc⟩:=qqe (base+lp);have k1:IntKind.i64.wrap ((s:Int)-1)=(s:Int)-1:=qxv _ oM;have k2:IntKind.i64.wrap (((s:Int)-1).tmod (n:Int))=(lp:Int):=by
  rw[show(s:Int)-1=((s-1:Nat):Int) by omega,<-Int.ofNat_tmod,<-hlp];exact qxv _ oM
 have k3:IntKind.i64.wrap ((base:Int)+(lp:Int))=(sc:Int):=by
  rw[hsc,qxt];exact qxv _ oM
 have k4:IntKind.i64.wrap ((base:Int)+((s:Int)-1).tmod (n:Int))=(sc:Int):=by
  rw[show(s:Int)-1=((s-1:Nat):Int) by omega,<-Int.ofNat_tmod,<-hlp];exact k3
 have hn0:¬n=0:=oM;have hut:=underlying54;have hsi:=zw y hy;have hsF:sc<F.length:=oM;have hd1:Dv (fun k=>T k/\k≠w.heap.size) w1.drew d F O P:=((hd.but (qXv _)).keep hu1 (fun _ _ h=>h)).keep ((uur (fun _=>False) _).drew) (fun _ _ h=>h);have hw1s:w.heap.size+1<=w1.drew.heap.size:=by rw[hw1];simp
 have hu1d:Upd T w w1.drew:=(hu1.drew).mono fE;rw[<-hlp,<-hsc];have HD:=Y6 hd1 (fun k (hk:w1.drew.heap.size<=k)=>(⟨hn k oM,oM⟩:T k/\k≠w.heap.size)) hsF hy hO hu1d;have HW1:=qqh hw1;have HT:=Y2 hTj hTg;obtain⟨m,hm⟩:=qqe (w.heap.size);rw[<-hm]at m0 rY HD;have HM:=qqh hm;clear hTj hTg hd1 hn hsF hO hw1s hu1d hw1 hu1 hg1 hd h c0 hgd rr hlp hsc hlp1 hy hm hbn hbs hmx hs1 hs2 hn1;go_enter func175,ntmps175
 go_wp2
 rw[<-HW1.o,<-HM.o];refine qZj (S:=fun W=>W.cell? ⟨g0,0,none⟩=some (.pointer (some ⟨j,0,none⟩))/\W.cell? ⟨j,0,none⟩=some (.pointer (some ⟨d,0,none⟩))/\W.cell? ⟨j,1,none⟩=some (.int .i64 (base:Int))/\W.cell? ⟨j,2,none⟩=some (.int .i64 (n:Int))/\W.cell? ⟨m,0,none⟩=some (.int .i64 (s:Int))/\W.rangeAt m 1 (bkC y)) kR (by(simp only[qYo,qYq]);exact⟨hc0,r0,r1,r2,m0,rY⟩) (fun hHeld=>?_);refine Wl.i [0,1,2,3,4,5,6,7,8,9,10,11,12,13,14,15,16,17] ?_;iterate 18 refine Wl.t hHeld ?_
 refine Wl.o ?_;refine Wl.l 18 (fun w h=>h.2.2.2.2.2) hut hsi hHeld ?_;refine Wl.r 19 (fun K hK=>?_);go_simp
 refine(wi HD.o.1 HD.o.2.1 sc HD.o.2.2.1 y HD.o.2.2.2.1 HD.o.2.2.2.2.1).mono ?_;rintro e w2 ⟨rfl,hd2,hu2⟩;have H2:=Y3 hd2 (((uur (fun k=>T k/\k≠m) w1).drew).trans hu2) (HD.o.2.2.2.2.2.trans (hu2.mono (fun k _ h=>h.1)));clear hd2 hu2;have hTj:∀k,(T k/\k≠m)->¬k=j:=fun k hk e=>HT.o.1 (e▸hk.1);have hTg:∀k,(T k/\k≠m)->¬k=g0:=fun k hk e=>HT.o.2 (e▸hk.1);refine hK.o _ _ (⟨H2.o.2.1.j4 hc0 (fun h=>hTg _ h rfl),H2.o.2.1.j4 r0 (fun h=>hTj _ h rfl),H2.o.2.1.j4 r1 (fun h=>hTj _ h rfl),H2.o.2.1.j4 r2 (fun h=>hTj _ h rfl),H2.o.2.1.j4 m0 (fun h=>h.2 rfl),H2.o.2.1.range rY (fun h=>h.2 rfl)⟩) (fun hH1=>?_);clear hK K;refine Wl.r 20 (fun K hK=>?_);go_simp
 refine hK.o _ _ (hH1) (fun hH2=>?_);clear hK K;refine Wl.d ?_;go_wp2
 go_ret
 exact⟨rfl,H2.o.1.wide (fun k h=>h.1),H2.o.2.2⟩
def comW(base n:Nat)(F:List Bk):List (Nat×Bk)->List (Nat×Bk)->List Int->DRes
 |[],O,P=>⟨F,O,P,0⟩
 |(s,y)::W,O,P=>if(writeR F O P (base+(s-1)%n) y).cd=0 then comW base n F W (writeR F O P (base+(s-1)%n) y).O (writeR F O P (base+(s-1)%n) y).P else writeR F O P (base+(s-1)%n) y
theorem yv(F:List Bk)(O:List (Nat×Bk))(P:List Int)(s:Nat)(y:Bk):(writeR F O P s y).F=F:=by
 unfold writeR;split;rfl;split<;>rfl
theorem wS(F:List Bk)(O:List (Nat×Bk))(P:List Int)(s:Nat)(y:Bk):(writeR F O P s y).O.length<=O.length+1:=by
 unfold writeR;split;simp;split<;>simp
theorem QC(F:List Bk)(O:List (Nat×Bk))(P:List Int):(flushR F O P).O.length<=O.length:=by
 unfold flushR;split;simp;split<;>simp
theorem Ww(base n:Nat)(F:List Bk):∀(W O:List (Nat×Bk)) (P:List Int),(comW base n F W O P).F=F
 |[],_,_=>rfl
 |(s,y)::W,O,P=>by
  unfold comW;split
  .exact Ww base n F W _ _
  .exact yv _ _ _ _ _
theorem Wy(base n:Nat)(F:List Bk):∀(W O:List (Nat×Bk)) (P:List Int),(comW base n F W O P).O.length<=O.length+W.length
 |[],_,_=>by simp[comW]
 |(s,y)::W,O,P=>by
  have h1:=wS F O P (base+(s-1)%n) y;unfold comW;split
  .have:=Wy base n F W (writeR F O P (base+(s-1)%n) y).O (writeR F O P (base+(s-1)%n) y).P;simp only[qze];omega
  .simp only[qze];omega
abbrev zdp(g0:Nat):Value:=.func (.func 175) #[] #[.pointer (some ⟨g0,0,none⟩)]
theorem AG{T:Nat->Prop}{w:World}{j d base n cov next:Nat}{vw:Value}{W:List (Nat×Bk)}(h:JnAt w j vw d base n cov next W)(h1:∀p∈W,1<=p.1){g0:Nat}(c0:w.cell? ⟨g0,0,none⟩=some (.pointer (some ⟨j,0,none⟩)))
  {F:List Bk} {O:List (Nat×Bk)} {P:List Int} (hd:Dv T w d F O P) (hn:∀k,w.heap.size<=k->T k) (hT:∀k,EY j vw k->¬T k) (hTg:¬T g0) (hbn:base+n<=F.length) (hO:O.length+W.length<=65536):
  Calls prog 174 #[vw,zdp g0] w (SX T w d (comW base n F W O P)):=by
 obtain⟨ao,c,rfl⟩:=h.ws.rd.j7;have H:=Y9 h h1 c0 hn hT hTg hbn hO hd;clear h h1 c0 hn hT hTg hbn hO hd;go_enter func174,ntmps174
 go_wp2
 go_step3
 go_wp2
 go_step3
 go_wp2
 go_loopw[5,10] (fun s5 s10 wr=>∃k O' P',k<=W.length/\s5=.int .i64 0/\s10=.int .i64 (k:Int)/\Dv T wr d F O' P'/\Upd T w wr/\comW base n F W O P=comW base n F (W.drop k) O' P'/\O'.length<=O.length+k) (fun _ s10 _=>W.length-(intOf s10).toNat)
 case atStart=>exact⟨0,O,P,qYf _,rfl,rfl,H.o.2.2.2.2.2.2.2.2,uur _ _,rfl,qXv _⟩
 case round=>
  obtain⟨k,O',P',hk,rfl,rfl,hd,hu,hcom,hOl⟩:=hrel;by_cases hlt:k<W.length
  .obtain ⟨h,h1,c0,hn,hT,hTg,hbn,hO,-⟩:=H.o;have h':=h.keep hu hT;obtain⟨g,off,cap,e1,hgl,hcap,hr⟩:=h'.range hlt;cases e1;have hp1:=h1 W[k] (qyz hlt);have hWl:W.length<=65536:=oM;have hlw:=h.good.lt W[k] (qyz hlt);have h64:=h.good.w64 W[k] (qyz hlt);have hdr:W.drop k=(W[k].1,W[k].2)::W.drop (k+1):=qyb hlt;have b1:(0:Int)<=(k:Int):=oM;have b2:(k:Int)<(W.length:Int):=oM;rw[hdr,comW]at hcom;obtain⟨s,hs⟩:=qqe (W[k].1);obtain⟨y,hy⟩:=qqe (W[k].2);rw[<-hs,<-hy]at hr hcom;rw[<-hs]at hp1 hlw;rw[<-hy]at h64;have hu2:Upd (fun _=>False) wr (wr.alloc (.cells (wrC (s:Int) y).toArray 289)):=(uur _ _).alloc _;have hr2:=zh (zc wr (.cells (wrC (s:Int) y).toArray 289) rfl);have hub:=hu.trans (hu2.mono fE);have hc:=zci (h'.new hu2) (hub.j4 c0 hTg) (hd.keep hu2 (fun _ _ h=>h)) (fun k hk=>hn k (qXx hub.size hk)) (hT j (.inl rfl)) hTg s hp1 hlw y h64 hbn oM;have hF:=yv F O' P' (base+(s-1)%n) y;have hO1:=wS F O' P' (base+(s-1)%n) y;generalize writeR F O' P' (base+(s-1)%n) y=r at*;have HC:=Y7 hc hub hF hO1 hcom hOl hk;clear h h' h1 c0 hn hT hTg hbn hO hu hd hc hub hF hO1 hcom hOl hs hy hdr hp1 hlw hgl hcap hu2 hk;go_wp2_with (first
    |refine qZg rfl _ _ rfl _ _ rfl _ _ hr underlying289 rfl (vV _ _ h64) ?_
    |refine qZg rfl _ _ rfl _ _ rfl _ _ hr2 underlying289 rfl (vV _ _ h64) ?_
    |(refine zl rfl _ _ _ rfl _ _ _ rfl rfl (by rw[qh,wrC_len,h64]) (vV _ _ h64) (ug _ _) ?_)
    |fail)
   refine HC.o.1.mono ?_;rintro e w3 ⟨rfl,hd3,hu3⟩;have H3:=Y2 hd3 hu3;clear hd3 hu3 hr hr2;by_cases hcd:r.cd=0
   .rw [hcd];go_wp2
    go_roundw
    case rel=>
     obtain⟨-,hub,hF,hO1,hcom,hOl,hk⟩:=HC.o;have hd3:=H3.o.1;rw[hF]at hd3;rw[if_pos hcd]at hcom;exact⟨k+1,r.O,r.P,oM,rfl,by go_num,hd3,hub.trans H3.o.2,hcom,oM⟩
    case measure=>simp[intOf];omega
   .have q0:(r.cd==0)=false:=by simpa using hcd
    go_wp2
    go_ret
    obtain⟨-,hub,hF,hO1,hcom,hOl,hk⟩:=HC.o;rw[if_neg hcd]at hcom;rw[hcom];exact⟨rfl,H3.o.1,hub.trans H3.o.2⟩
  .obtain rfl:k=W.length:=oM;have HC:=Y3 hd hu hcom;clear hd hu hcom hk hOl;go_wp2
   go_ret
   obtain⟨hd,hu,hcom⟩:=HC.o;rw[hcom,List.drop_length];exact⟨rfl,hd,hu⟩
open Go Go.RowKit Go.Shelf Tryz
attribute [local go_sem] qYh
def wrsR(F:List Bk):List (Nat×Bk)->List (Nat×Bk)->List Int->DRes
 |[],O,P=>⟨F,O,P,0⟩
 |(s,y)::L,O,P=>if(writeR F O P s y).cd=0 then wrsR F L (writeR F O P s y).O (writeR F O P s y).P else writeR F O P s y
theorem tf(F:List Bk)(L:List (Nat×Bk)):∀O P,(wrsR F L O P).F=F:=by
 induction L with
 |nil=>intro O P;rfl
 |cons x L ih=>
  intro O P;simp only[wrsR];split
  .exact ih _ _
  .exact yv _ _ _ _ _
theorem QD(F:List Bk)(L:List (Nat×Bk)):∀O P,(wrsR F L O P).O.length<=O.length+L.length:=by
 induction L with
 |nil=>intro O P;simp[wrsR]
 |cons x L ih=>
  intro O P;have h1:=wS F O P x.1 x.2;simp only[wrsR,qze];split
  .have:=ih (writeR F O P x.1 x.2).O (writeR F O P x.1 x.2).P;omega
  .omega
theorem wrsR_yes{F:List Bk}{x:Nat×Bk}{L O:List (Nat×Bk)}{P:List Int}(h:(writeR F O P x.1 x.2).cd=0):wrsR F (x::L) O P=wrsR F L (writeR F O P x.1 x.2).O (writeR F O P x.1 x.2).P:=by
 simp only[wrsR];exact if_pos h
theorem qi{F:List Bk}{x:Nat×Bk}{L O:List (Nat×Bk)}{P:List Int}(h:¬(writeR F O P x.1 x.2).cd=0):wrsR F (x::L) O P=writeR F O P x.1 x.2:=by
 simp only[wrsR];exact if_neg h
theorem UW(F:List Bk)(L:List (Nat×Bk))(s:Nat)(y:Bk):∀O P,wrsR F (L++[(s,y)]) O P=if(wrsR F L O P).cd=0 then writeR F (wrsR F L O P).O (wrsR F L O P).P s y else wrsR F L O P:=by
 induction L with
 |nil=>
  intro O P;simp only[qzz,wrsR,if_true];split
  .next h=>
   have hF:=yv F O P s y;generalize writeR F O P s y=r at*;obtain⟨rF,rO,rP,rc⟩:=r;simp only at hF h;subst hF h;rfl
  .rfl
 |cons x L ih=>
  intro O P;rw[qya];by_cases h:(writeR F O P x.1 x.2).cd=0
  .rw [wrsR_yes h,wrsR_yes h];exact ih _ _
  .rw [qi h,qi h,if_neg h]
theorem QE(F:List Bk)(L L':List (Nat×Bk)):∀O P,(wrsR F L O P).cd≠0->wrsR F (L++L') O P=wrsR F L O P:=by
 induction L with
 |nil=>intro O P h;exact absurd rfl h
 |cons x L ih=>
  intro O P;rw[qya];by_cases h:(writeR F O P x.1 x.2).cd=0
  .rw [wrsR_yes h,wrsR_yes h];exact ih _ _
  .rw [qi h,qi h];exact fun _=>rfl
theorem Ju{base m k:Nat}(B:List Bk)(h:k<=m):∃L',ckO base m B=ckO base k B++L':=by
 refine⟨((List.range m).drop k).map (Yv base B),?_⟩;rw[ckO,ckO,<-qzl]
 congr 1
 rw[show List.range k=(List.range m).take k by rw[List.take_range,Nat.min_eq_left h]];exact(qXo k _).symm
def PwI(T:Nat->Prop)(w5:World)(b:Nat)(F:List Bk)(O:List (Nat×Bk))(P:List Int)(base:Nat){m:Nat}(B:List Bk)(pre:List {i:Nat//i<m})(W:World):Prop:=
 (wrsR F (pre.map (fun x=>Yv base B x.1)) O P).cd=0/\Dv T W b F (wrsR F (pre.map (fun x=>Yv base B x.1)) O P).O (wrsR F (pre.map (fun x=>Yv base B x.1)) O P).P/\Upd T w5 W
def PwX(T:Nat->Prop)(w5:World)(b:Nat)(F:List Bk)(O:List (Nat×Bk))(P:List Int)(base:Nat){m:Nat}(B:List Bk)(rb:Nat)(c:Code)(pre:List {i:Nat//i<m})(W:World):Prop:=
 c=.ret/\(wrsR F (pre.map (fun x=>Yv base B x.1)) O P).cd≠0/\Dv T W b F (wrsR F (pre.map (fun x=>Yv base B x.1)) O P).O (wrsR F (pre.map (fun x=>Yv base B x.1)) O P).P/\Upd (fun j=>T j\/j=rb) w5 W/\
  W.heap[rb]?=some (.cells #[.int .i64 (wrsR F (pre.map (fun x=>Yv base B x.1)) O P).cd] 28 (0,0))
theorem QF{T:Nat->Prop}{S:Nat->Prop}{w w5 W W':World}{b rb D:Nat}{F:List Bk}{O:List (Nat×Bk)}{P:List Int}(hrb:w.heap.size<=rb)(hD:w5.heap.size<=D)(_hw5:w.heap.size<=w5.heap.size)(hrb5:rb<w5.heap.size)
  (hT:T=fun j=>(S j/\j<w.heap.size)\/w5.heap.size<=j) (hn:∀j,w.heap.size<=j->S j) (hU:Upd (fun _=>False) w w5) (hd:Dv T W b F O P) (hu:Upd (fun j=>T j\/j=rb) w5 W) {v:Value}
  (hG:W.heap[rb]?=some (.cells #[v] 28 (0,0))) (hK:W.heap[D]?=some (.deferred (some []))) (hW':W'=W.putObj D (.deferred none)):
  W'.cell? ⟨rb,0,none⟩=some v/\Dv S W' b F O P/\Upd S w W':=by
 have hDl:=zf hK;have hW:=wN (S:=fun j=>w5.heap.size<=j) (M:=w5.heap.size) (fun j h=>h) W D _ (.deferred none) hD hK rfl rfl;subst hW';refine⟨za ((hW.block _ (zf hG) oM).trans hG) 0,?_,?_⟩
 .have h2:=hd.grown (grownBy_putObj' W D (.deferred none)) (fun r e=>by cases e;exact⟨_,hK,rfl⟩);exact h2.wide (fun j hj=>by
   rw[hT]at hj;rcases hj with hj|hj
   .exact hj.1
   .exact hn j oM)
 .have hX:Upd (fun j=>T j\/j=rb\/w5.heap.size<=j) w5 (W.putObj D (.deferred none)):=(hu.mono (fun j _ h=>h.imp id .inl)).trans (hW.mono (fun _ _ h=> .inr (.inr h)));refine(hU.mono fE).new hX (fun i hi hs=>?_);rcases hs with hs|hs|hs
  .rw [hT]at hs;rcases hs with hs|hs
   .exact hs.1
   .omega
  .omega
  .omega
theorem Jv{S:Nat->Prop}{w:World}{b:Nat}{F:List Bk}{O:List (Nat×Bk)}{P:List Int}(hd:Dv S w b F O P)(hn:∀j,w.heap.size<=j->S j)(base m seq:Nat)(lo:Option Addr)(n lc:Nat)(E:List Ent)(hEn:E.length=n)(hnm:needN n<=m)(hn1:n<=100000)
  (hbm:base+m<=F.length) (hO:O.length+m<65536) (hbuild:∀W,Below w.heap.size w W->Calls prog 191 #[.int .i64 (seq:Int),.slice lo n lc] W (xw W seq E)):
  Calls prog 120 #[.pointer (some ⟨b,0,none⟩),.int .i64 (base:Int),.int .i64 (m:Int),.int .i64 (seq:Int),.slice lo n lc] w (SX S w b (wrsR F (ckO base m (pagesB seq E)) O P)):=by
 subst hEn;have hm1:1<=m:=by unfold needN at hnm;omega
 have hfl:=hd.good.fl;have q1:decide (m<needN E.length)=false:=by simp;omega
 obtain⟨w2,hw2⟩:=qqe ((w.alloc (.cells #[.pointer (some ⟨b,0,none⟩)] 46)).alloc (.cells #[.int .i64 0] 28));have hu2:Upd (fun _=>False) w w2:=by rw[hw2];exact((uur _ w).alloc _).alloc _
 have hd2:=hd.new hu2;have hb2:Below w.heap.size w w2:=Upd.below hu2;have hz2:w2.heap.size=w.heap.size+2:=by rw[hw2];simp
 have hg0:w2.heap[w.heap.size]?=some (.cells #[.pointer (some ⟨b,0,none⟩)] 46):=by
  rw[hw2];exact(qxk _ _ _ oe).trans (zc w _ rfl)
 have hg1:w2.heap[w.heap.size+1]?=some (.cells #[.int .i64 0] 28):=by
  rw[hw2];exact zc _ _ oe
 have H:=Y11 hd hn True.intro hnm hbuild hu2 hd2 hb2 hz2 hg0 hg1;clear hd hn hnm hbuild hu2 hb2 hz2 hg0 hg1;refine(callsIn_wide (n:=3)).1 ?_;refine callsIn_of_wp_marks func120 rfl trivial ?_ rfl;simp only[ntmps120,qXm,qze,qzh,Nat.reduceAdd,Nat.reduceSub,qxi,qxj,qXg,qxz,qzz,qya]
 gi_wp2_with (first
  |(refine⟨trivial,?_⟩;gi_at_call 97;rw[<-hw2];refine(callsIn_wide.2 (Qo hd2 base m hm1 hbm)).mono ?_;rintro e w' ⟨rfl,rfl⟩)
  |(refine⟨trivial,?_⟩;gi_at_call 54;refine(callsIn_wide.2 (qP E.length hn1 _)).mono ?_;rintro e w' ⟨rfl,rfl⟩)
  |fail)
 refine⟨trivial,?_⟩;rw[<-hw2];refine(callsIn_wide.2 (H.o.2.2.2.2.1 w2 H.o.2.2.2.2.2.2.2.1)).mono ?_;rintro e w3 ⟨vB,rfl,hslB,hfB,hbB⟩;obtain⟨ao,cc,rfl⟩:=hslB.rd.j7;have hu23:=qqb hbB;obtain⟨w4,hw4⟩:=qqe (w3.alloc (.cells #[.slice ao (needN E.length) cc] 41));have hu34:=qqu hw4;have hg2:=qqg hw4;have hz4:w4.heap.size=w3.heap.size+1:=by rw[hw4];simp
 have H3:=Y6 hslB hfB hu23 hu34 hg2 hz4;clear hslB hfB hbB hu23 hu34 hg2 hz4 hw2 q1 hd2
 gi_wp2_with (first
  |(refine⟨trivial,?_⟩;gi_at_call 98;rw[<-hw4];refine(callsIn_wide.2 (tL (base:Int) (m:Int) w4)).mono ?_;rintro e w5 ⟨rfl,hw5⟩)
  |fail)
 have hu45:Upd (fun _=>False) w4 w5:=by rw[hw5];exact((uur _ w4).alloc _).alloc _
 have hz5:w5.heap.size=w4.heap.size+2:=by rw[hw5];simp
 have hcb:w5.cell? ⟨w4.heap.size,0,none⟩=some (.int .i64 (base:Int)):=by
  rw[hw5];exact(za ((qxk _ _ _ oe).trans (zc w4 _ rfl)) 0)
 have hcm:w5.cell? ⟨w4.heap.size+1,0,none⟩=some (.int .i64 (m:Int)):=by
  rw[hw5];exact(za (zc _ _ oe) 0)
 obtain⟨hd,hn,-,hnm,hbuild,hu2,hd2,hb2,hz2,hg0,hg1⟩:=H.o;obtain⟨hslB,hfB,hu23,hu34,hg2,hz4⟩:=H3.o;have hu25:Upd (fun _=>False) w2 w5:=(hu23.trans hu34).trans hu45;have hs3:=hu23.size;obtain⟨T,hT⟩:∃T:Nat->Prop,T=fun j=>(S j/\j<w.heap.size)\/w5.heap.size<=j:=⟨_,rfl⟩
 have hTn:∀j,w5.heap.size<=j->T j:=fun j hj=>by rw[hT];exact .inr hj
 have hTo:∀j,w.heap.size<=j->j<w5.heap.size->¬T j:=fun j h1 h2 h=>by rw[hT]at h;rcases h with h|h<;>omega
 have hd5:Dv T w5 b F O P:=((hd.kH (T:=fun j=>S j/\j<w.heap.size) (fun j h1 h2=>⟨h1,h2⟩)).new (hu2.trans hu25)).wide (fun j h=>by rw[hT];exact .inl h);have hG0:=hu25.j6 hg0;have hG1:=hu25.j6 hg1;have hG2:=hu45.j6 hg2;have hsl5:=hslB.keep (hu34.trans hu45) (fun _ _ h=>h);have HU:=qqh (hu2.trans hu25);have H5:=Y8 hd5 hTn hTo hG0 hG1 hG2 hsl5 hT;have b64:=Wr seq E (needN E.length);clear hd hn hnm hbuild hu2 hd2 hb2 hg0 hg1 hslB hu23 hu34 hu45 hg2 hu25 hd5 hG0 hG1 hG2 hsl5 hT;rw[<-hw4,<-hw5];rw[hz4]at hcb hcm;clear hw4 hw5
 refine' wpIn_rangeFunc_ownF rfl oM (gf:=171) (lb:= #[.pointer (some ⟨w3.heap.size+1+1,0,none⟩),.pointer (some ⟨w3.heap.size+1,0,none⟩)]) rfl trivial (enters_of func171 kR rfl)
  (sK _ oM T (w3.heap.size+1+1) (w3.heap.size+1) base m w5 oM oM oM oM (hTo _ oM oM) (hTo _ oM oM) hcm hcb) uR (fun W l o o' hl=>wN (M:=w5.heap.size) hTn W l o o' hl) (qxl _ _) (fun _=>rfl)
  (PwI T w5 b F O P base (pagesB seq E))
  (PwX T w5 b F O P base (pagesB seq E) (w.heap.size+1))
  (fun pre X Y row hs hg hr=>⟨hs.1,hs.2.1.grown hg (fun r e=>(hr r e).2),xt hs.2.2 hg (fun r e=>hTn r (hr r e).1)⟩)
  (fun cc pre X Y row hs hg hr=>⟨hs.1,hs.2.1,hs.2.2.1.grown hg (fun r e=>(hr r e).2),xt hs.2.2.2.1 hg (fun r e=> .inl (hTn r (hr r e).1)),(grownBy_keeps_cells hg (fun r e=>(hr r e).2) hs.2.2.2.2 rfl).trans hs.2.2.2.2⟩)
  ⟨rfl,H5.o.1,uur _ _⟩
  _ ?assign ?body ?done ?stop
 case assign=>
  intro l x W K hK
  gi_wp2
  exact hK
 case body=>
  rintro l pre ⟨i,hi⟩ W ⟨hcd,hv,hu⟩ hlt;obtain⟨-,-,-,hG0,hG1,hG2,hsl5,-⟩:=H5.o;have hG0:=(hu.block _ (zf hG0) (hTo _ oM oM)).trans hG0;have hG1:=(hu.block _ (zf hG1) (hTo _ oM oM)).trans hG1;have hG2:=(hu.block _ (zf hG2) (hTo _ oM oM)).trans hG2;have hsl:=hsl5.keep hu (fun j hj=>hTo j (by have:=hfB j hj;omega) (hsl5.lt hj));have c0:W.cell? ⟨w.heap.size,0,none⟩=some (.pointer (some ⟨b,0,none⟩)):=za hG0 0;have c2:W.cell? ⟨w3.heap.size,0,none⟩=some (.slice ao (needN E.length) cc):=za hG2 0;have hl0:=zf hG0;have hl2:=zf hG2;obtain⟨y,hy⟩:=qqe ((pagesB seq E).getD i zB);have hyl:(bkC y).length=64:=by
   rw[zo,hy];by_cases h:i<(pagesB seq E).length
   .rw [qyh,qyn h];exact b64 _ (qyz h)
   .rw [qyh,qyo oM];rfl
  have hy64:Hid ((prog.info? 54).map (·.size)=some (bkC y).length):=by show _=_;rw[hyl];exact zP
  have hrO:=QD F (pre.map (fun x=>Yv base (pagesB seq E) x.1)) O P;rw[qzg]at hrO;have hsn:=UW F (pre.map (fun x=>Yv base (pagesB seq E) x.1)) (base+i) y O P;rw[if_pos hcd]at hsn;have hpm:(pre++[(⟨i,hi⟩:{i:Nat//i<m})]).map (fun x=>Yv base (pagesB seq E) x.1)=pre.map (fun x=>Yv base (pagesB seq E) x.1)++[(base+i,y)]:=by
   rw[qzl,hy];rfl
  rw[<-hpm]at hsn;generalize wrsR F (pre.map (fun x=>Yv base (pagesB seq E) x.1)) O P=r0 at*;obtain⟨rF,rO,rP,rc⟩:=r0;simp only at hcd hv hrO hsn;obtain⟨S0,h0,hs0,hcs0⟩:=hv.exact;obtain⟨W1,hW1⟩:=qqe (W.alloc (.cells (bkC y).toArray 54));have hu1:=qqu hW1;have hg1:=qqg hW1;have rA:=zh hg1;have hz1:W1.heap.size=W.heap.size+1:=by rw[hW1];simp
  have hwr:=wi (S:=fun j=>S0 j\/W1.heap.size<=j) ((h0.new hu1).wide (fun _ h=> .inl h)) (fun _ h=> .inr h) (base+i) oM y (by rw[<-zo];exact hyl) oM;have hR:writeR F rO rP (base+i) y=writeR F rO rP (base+i) y:=rfl;have hRF:=yv F rO rP (base+i) y;generalize hrr:writeR F rO rP (base+i) y=r at*;clear hR;have HB:=Y11 hv hu hsl hy hyl h0 hs0 hcs0 hW1 hu1 hz1;have HG1:=Y3 hG1 hsn hRF;have c10:W1.cell? ⟨w.heap.size,0,none⟩=some (.pointer (some ⟨b,0,none⟩)):=hu1.j4 c0 id;have HW:=Y2 hwr c10;clear hv hu hsl hG0 hG1 hG2 hsl5 hy hyl h0 hs0 hcs0 hu1 hg1 hwr hz1 c10 hcd hrO hsn hpm hrr hRF;clear hG0 hG1 hG2;rw[hW1]at rA;obtain⟨rcd,hrcd⟩:=qqe (r.cd);replace hrcd:=qqh hrcd;by_cases hlt2:i<needN E.length
  .obtain ⟨g,off,cap,cur,e1,hg,hz,hc⟩:=HB.o.2.2.1.at oM;cases e1;have hBl:(pagesB seq E).length=needN E.length:=xj _ _ _;have hr:=sH (F:=pagesB seq E) b64 hg hc (i:=i) oM;have hyi:(pagesB seq E)[i]'oM =y:=by rw[HB.o.2.2.2.1,qyh,qyn oM];rfl
   rw[hyi]at hr;have hr2:=qYp hr (.cells (bkC zB).toArray 54);clear hg hz hc hyi hr
   gi_wp2_with (first
    |(refine yM rfl _ _ rfl _ _ rfl _ _ hr2 underlying54 rfl hy64.out ?_)
    |(refine yM rfl _ _ rfl _ _ rfl _ _ rA underlying54 rfl hy64.out ?_)
    |(refine xA rfl _ _ _ rfl _ _ _ rfl rfl (by rw[HB.o.2.2.2.2.1];rfl) hy64.out (zx y) ?_)
    |fail)
   refine⟨trivial,?_⟩;rw[show((base:Int)+(i:Int))=((base+i:Nat):Int) by simp,<-hW1];clear hW1 rA c0 c2;refine(CallsIn.inRound l (callsIn_wide.2 HW.o.1)).mono ?_;rintro e W2 ⟨rfl,hd2,hu2⟩;have hl1:w.heap.size+1<W2.heap.size:=by have:=hu2.size;have:=zf HG1.o.1;have:=HB.o.2.2.2.2.2.2.2.2.2.2;omega
   have hG1':W2.heap[w.heap.size+1]?=some (.cells #[.int .i64 0] 28):=by
    have hG1:=HG1.o.1;have hl:=zf hG1;refine(hu2.block _ (by have:=HB.o.2.2.2.2.2.2.2.2.2.2;omega) (fun hs=>?_)).trans (HB.o.2.2.2.2.2.2.2.2.2.1.j6 hG1);rcases hs with hs|hs
    .exact hTo _ oM oM (HB.o.2.2.2.2.2.2.1 _ hs)
    .have:=HB.o.2.2.2.2.2.2.2.2.2.2;omega
   have f1:=zg hG1' 0;have c1':=za hG1' 0;have HD:=Y3 hd2 hu2 hG1';clear hd2 hu2 hG1';rw[<-hrcd.out];by_cases hc:rcd=0
   .have HZ:=qqh (hc▸hrcd.out:0=r.cd);subst hc
    gi_wp2
    obtain⟨hv,hu,hsl,hy,hyl,h0,hs0,hcs0,hW1,hu1,hz1⟩:=HB.o;obtain⟨hd2,hu2,hG1'⟩:=HD.o;have hsz:=hu.size;have hK1:KeepsOthers W W1:=by rw[hW1];exact KeepsOthers.alloc W _
    have hT2:Upd T W W2:=(hu1.mono fE).trans (hu2.mono (fun j _ hj=>hj.elim (fun h=>hs0 j h) (fun h=>hTn j oM)));refine⟨hK1.trans (zD hu2 (fun j hj hl=>?_)),hT2,?_,?_,hu.trans hT2⟩
    .rcases hj with hj|hj
     .obtain ⟨cs,t,z,hc⟩:=hcs0 j hj;exact⟨cs,t,z,hu1.j6 hc⟩
     .omega
    .rw [HG1.o.2.1];exact HZ.o.symm
    .rw [HG1.o.2.1];have:=hd2.wide (T:=T) (fun j hj=>hj.elim (fun h=>hs0 j h) (fun h=>hTn j oM));rw[HG1.o.2.2]at this;exact this
   .have q0:(rcd==0)=false:=by simpa using hc
    gi_wp2
    obtain⟨hv,hu,hsl,hy,hyl,h0,hs0,hcs0,hW1,hu1,hz1⟩:=HB.o;obtain⟨hd2,hu2,hG1'⟩:=HD.o;have hsz:=hu.size;have hK1:KeepsOthers W W1:=by rw[hW1];exact KeepsOthers.alloc W _
    have hT2:Upd T W W2:=(hu1.mono fE).trans (hu2.mono (fun j _ hj=>hj.elim (fun h=>hs0 j h) (fun h=>hTn j oM)));have hus:=zj W2 (w.heap.size+1) 0 (.int .i64 rcd);have hne:¬T (w.heap.size+1):=hTo _ oM (by have:=H5.o.2.2.2.2.1;have:=zf this;omega);refine⟨(hK1.trans (zD hu2 (fun j hj hl=>?_))).trans (zD hus (fun j hj _=>⟨_,_,_,hj▸hG1'⟩)),rfl,?_,?_,?_,?_⟩
    .rcases hj with hj|hj
     .obtain ⟨cs,t,z,hc⟩:=hcs0 j hj;exact⟨cs,t,z,hu1.j6 hc⟩
     .omega
    .rw [HG1.o.2.1,<-hrcd.out];exact hc
    .rw [HG1.o.2.1];have:=hd2.wide (T:=T) (fun j hj=>hj.elim (fun h=>hs0 j h) (fun h=>hTn j oM));rw[HG1.o.2.2]at this;exact this.keep hus (fun j hj e=>hne (e▸hj))
    .exact ((hu.trans hT2).mono (fun _ _ h=> .inl h)).trans (hus.mono (fun _ _ h=> .inr h))
    .rw [HG1.o.2.1,<-hrcd.out];exact zi hG1' 0 (.int .i64 rcd)
  .have hyz:y=zB:=by
    have hBl:(pagesB seq E).length=needN E.length:=xj _ _ _;rw[HB.o.2.2.2.1,qyh,qyo oM];rfl
   gi_wp2_with fail
   rw[As,<-hyz];clear hyz;refine vJ _ _ rfl _ _ rfl _ _ rA underlying54 rfl hy64.out ?_
   gi_wp2_with fail
   refine⟨trivial,?_⟩;rw[show((base:Int)+(i:Int))=((base+i:Nat):Int) by simp,<-hW1];clear hW1 rA c0 c2;refine(CallsIn.inRound l (callsIn_wide.2 HW.o.1)).mono ?_;rintro e W2 ⟨rfl,hd2,hu2⟩;have hl1:w.heap.size+1<W2.heap.size:=by have:=hu2.size;have:=zf HG1.o.1;have:=HB.o.2.2.2.2.2.2.2.2.2.2;omega
   have hG1':W2.heap[w.heap.size+1]?=some (.cells #[.int .i64 0] 28):=by
    have hG1:=HG1.o.1;have hl:=zf hG1;refine(hu2.block _ (by have:=HB.o.2.2.2.2.2.2.2.2.2.2;omega) (fun hs=>?_)).trans (HB.o.2.2.2.2.2.2.2.2.2.1.j6 hG1);rcases hs with hs|hs
    .exact hTo _ oM oM (HB.o.2.2.2.2.2.2.1 _ hs)
    .have:=HB.o.2.2.2.2.2.2.2.2.2.2;omega
   have f1:=zg hG1' 0;have c1':=za hG1' 0;have HD:=Y3 hd2 hu2 hG1';clear hd2 hu2 hG1';rw[<-hrcd.out];by_cases hc:rcd=0
   .have HZ:=qqh (hc▸hrcd.out:0=r.cd);subst hc
    gi_wp2
    obtain⟨hv,hu,hsl,hy,hyl,h0,hs0,hcs0,hW1,hu1,hz1⟩:=HB.o;obtain⟨hd2,hu2,hG1'⟩:=HD.o;have hsz:=hu.size;have hK1:KeepsOthers W W1:=by rw[hW1];exact KeepsOthers.alloc W _
    have hT2:Upd T W W2:=(hu1.mono fE).trans (hu2.mono (fun j _ hj=>hj.elim (fun h=>hs0 j h) (fun h=>hTn j oM)));refine⟨hK1.trans (zD hu2 (fun j hj hl=>?_)),hT2,?_,?_,hu.trans hT2⟩
    .rcases hj with hj|hj
     .obtain ⟨cs,t,z,hc⟩:=hcs0 j hj;exact⟨cs,t,z,hu1.j6 hc⟩
     .omega
    .rw [HG1.o.2.1];exact HZ.o.symm
    .rw [HG1.o.2.1];have:=hd2.wide (T:=T) (fun j hj=>hj.elim (fun h=>hs0 j h) (fun h=>hTn j oM));rw[HG1.o.2.2]at this;exact this
   .have q0:(rcd==0)=false:=by simpa using hc
    gi_wp2
    obtain⟨hv,hu,hsl,hy,hyl,h0,hs0,hcs0,hW1,hu1,hz1⟩:=HB.o;obtain⟨hd2,hu2,hG1'⟩:=HD.o;have hsz:=hu.size;have hK1:KeepsOthers W W1:=by rw[hW1];exact KeepsOthers.alloc W _
    have hT2:Upd T W W2:=(hu1.mono fE).trans (hu2.mono (fun j _ hj=>hj.elim (fun h=>hs0 j h) (fun h=>hTn j oM)));have hus:=zj W2 (w.heap.size+1) 0 (.int .i64 rcd);have hne:¬T (w.heap.size+1):=hTo _ oM (by have:=H5.o.2.2.2.2.1;have:=zf this;omega);refine⟨(hK1.trans (zD hu2 (fun j hj hl=>?_))).trans (zD hus (fun j hj _=>⟨_,_,_,hj▸hG1'⟩)),rfl,?_,?_,?_,?_⟩
    .rcases hj with hj|hj
     .obtain ⟨cs,t,z,hc⟩:=hcs0 j hj;exact⟨cs,t,z,hu1.j6 hc⟩
     .omega
    .rw [HG1.o.2.1,<-hrcd.out];exact hc
    .rw [HG1.o.2.1];have:=hd2.wide (T:=T) (fun j hj=>hj.elim (fun h=>hs0 j h) (fun h=>hTn j oM));rw[HG1.o.2.2]at this;exact this.keep hus (fun j hj e=>hne (e▸hj))
    .exact ((hu.trans hT2).mono (fun _ _ h=> .inl h)).trans (hus.mono (fun _ _ h=> .inr h))
    .rw [HG1.o.2.1,<-hrcd.out];exact zi hG1' 0 (.int .i64 rcd)
 case done=>
  rintro D ys W hD hys ⟨hcd,hv,hu⟩ hK;obtain⟨-,-,-,-,hG1,-,-,hT⟩:=H5.o;have hG1:=(hu.block _ (zf hG1) (hTo _ oM oM)).trans hG1;have c1:=za hG1 0;have f1:=zg hG1 0;have hyO:(ckO base m (pagesB seq E))=ys.map (fun x=>Yv base (pagesB seq E) x.1):=by
   rw[ckO,<-hys,qzn];rfl
  rw[<-hyO]at hcd hv;have hF:=tf F (ckO base m (pagesB seq E)) O P;generalize wrsR F (ckO base m (pagesB seq E)) O P=r at*;have HV:=Y7 hv hu hcd hK hG1 hT hF;have hl1:=zf hG1;clear hv hu hyO hG1 hT hcd hF
  gi_wp2
  obtain⟨hv,hu,hcd,hK,hG1,hT,hF⟩:=HV.o;have hus:=zj W (w.heap.size+1) 0 (.int .i64 0);have hK2:(W.setCell ⟨w.heap.size+1,0,none⟩ (.int .i64 0)).heap[D]?=some (.deferred (some [])):=(hus.block D (zf hK) oM).trans hK;have hG2:=zi hG1 0 (.int .i64 0);refine⟨oe,.inl ⟨_,_,rfl,run_takeDeferred hK2,?_⟩⟩;have h1:=hv.keep hus (fun j hj e=>hTo j oM oM hj);obtain⟨e1,e2,e3⟩:=QF (rb:=w.heap.size+1) oM hD oM oM hT H.o.2.1 HU.o h1 ((hu.mono (fun _ _ h=> .inl h)).trans (hus.mono (fun _ _ h=> .inr h))) hG2 hK2 rfl;refine⟨.int .i64 0,by simp[results,results120,go_sem,e1],?_,?_,e3⟩
  .rw [hcd]
  .rw [hF];exact e2
 case stop=>
  rintro D c pre W hD hpre ⟨rfl,hcd,hv,hu,hG⟩ hK;have hT:=H5.o.2.2.2.2.2.2.2;have hk:pre.length<=m:=by
   refine Decidable.byContradiction fun hlt=>?_;have hm':m∈pre.map (·.1):=by rw[hpre];exact qzx.2 oM
   obtain⟨x,-,hx⟩:=qzv.1 hm';have:=x.2;omega
  obtain⟨L',hL'⟩:=Ju (base:=base) (pagesB seq E) hk;have hyO:(ckO base pre.length (pagesB seq E))=pre.map (fun x=>Yv base (pagesB seq E) x.1):=by
   rw[ckO,<-hpre,qzn];rfl
  have hfull:wrsR F (ckO base m (pagesB seq E)) O P=wrsR F (pre.map (fun x=>Yv base (pagesB seq E) x.1)) O P:=by
   rw[hL',hyO];exact QE _ _ _ _ _ hcd
  have hF:=tf F (ckO base m (pagesB seq E)) O P;rw[<-hfull]at hcd hv hG;generalize wrsR F (ckO base m (pagesB seq E)) O P=r at*;clear hfull;obtain⟨e1,e2,e3⟩:=QF (rb:=w.heap.size+1) oM hD oM oM hT H.o.2.1 HU.o hv hu hG hK rfl;clear hv hu hG
  gi_wp2
  refine⟨oe,.inl ⟨_,_,rfl,run_takeDeferred hK,?_⟩⟩;refine⟨.int .i64 r.cd,by simp[results,results120,go_sem,e1],rfl,?_,e3⟩;rw[hF];exact e2
end
section
def saveR(F:List Bk)(O:List (Nat×Bk))(P:List Int)(L:List (Nat×Bk)):DRes:=
 if(wrsR F L O P).cd=0 then flushR F (wrsR F L O P).O (wrsR F L O P).P else wrsR F L O P
theorem UX(F:List Bk)(O:List (Nat×Bk))(P:List Int)(L:List (Nat×Bk)):(saveR F O P L).F.length=F.length:=by
 unfold saveR;split
 .unfold flushR;repeat' split
  all_goals simp[zG]
 .rw [tf]
theorem QG{S:Nat->Prop}{w:World}{b:Nat}{F:List Bk}{O:List (Nat×Bk)}{P:List Int}(hd:Dv S w b F O P)(hn:∀j,w.heap.size<=j->S j)(base m seq wh:Nat)(hwh:wh<=1)(lo:Option Addr)(n lc:Nat)(E:List Ent)(hEn:E.length=n)(hnm:needN n<=m)(hn1:n<=100000)
  (hbm:base+m+m<=F.length) (hO:O.length+m<65536) (hbuild:∀W,Below w.heap.size w W->Calls prog 191 #[.int .i64 (seq:Int),.slice lo n lc] W (xw W seq E)):
  Calls prog 60 #[.pointer (some ⟨b,0,none⟩),.int .i64 (base:Int),.int .i64 (m:Int),.int .i64 (wh:Int),.int .i64 (seq:Int),.slice lo n lc] w (SX S w b (saveR F O P (ckO (base+wh*m) m (pagesB seq E)))):=by
 have hfl:=hd.good.fl;have hW:=Jv hd hn (base+wh*m) m seq lo n lc E hEn hnm hn1 (by rcases(show wh=0\/wh=1 by omega)with rfl|rfl<;>omega) hO hbuild;have hrF:=tf F (ckO (base+wh*m) m (pagesB seq E)) O P;obtain⟨R,hR⟩:=qqe (saveR F O P (ckO (base+wh*m) m (pagesB seq E)));rw[<-hR];unfold saveR at hR;generalize wrsR F (ckO (base+wh*m) m (pagesB seq E)) O P=r at*;have HW:=qqh hW;have HH:=Y3 hn hR hrF;obtain⟨rcd,hrcd⟩:=qqe (r.cd);replace hrcd:=qqh hrcd;clear hd hn hEn hnm hn1 hO hbuild hW hrF hR;rcases(show wh=0\/wh=1 by omega)with rfl|rfl
 .simp only[qYg,qXs,Int.natCast_zero]at*;go_enter func60,ntmps60
  go_wp2_with fail
  refine HW.o.mono ?_;rintro e w2 ⟨rfl,hd2,hu2⟩;rw[HH.o.2.2]at hd2;rw[<-hrcd.out];have HF:=Y3 (xo hd2 (fun j hj=>HH.o.1 j (by have:=hu2.size;omega))) hu2 hd2;clear hd2 hu2;by_cases hc:rcd=0
  .have HZ:=qqh (hc▸hrcd.out:0=r.cd);subst hc;go_wp2_with fail
   refine HF.o.1.mono ?_;rintro e w3 ⟨rfl,hd3,hu3⟩;have HE:=Y2 hd3 hu3;have HR:=HH.o.2.1;rw[if_pos HZ.o.symm]at HR;rw[<-HR]at HE⊢;replace HR:=qqh HR;clear hd3 hu3;go_wp2
   go_ret
   exact⟨rfl,HE.o.1,HF.o.2.1.trans HE.o.2⟩
  .have q0:(rcd==0)=false:=by simpa using hc
   have HZ:=qqh hc;go_wp2
   go_ret
   have HR:=HH.o.2.1;rw[if_neg (by rw[<-hrcd.out];exact HZ.o)]at HR;rw[HR,hrcd.out];refine⟨rfl,?_,HF.o.2.1⟩;rw[HH.o.2.2];exact HF.o.2.2
 .simp only[Nat.one_mul,Int.natCast_one]at*;have e1:((base:Int)+(m:Int))=((base+m:Nat):Int):=oe;rw[<-e1]at HW;clear e1;go_enter func60,ntmps60
  go_wp2_with fail
  refine HW.o.mono ?_;rintro e w2 ⟨rfl,hd2,hu2⟩;rw[HH.o.2.2]at hd2;rw[<-hrcd.out];have HF:=Y3 (xo hd2 (fun j hj=>HH.o.1 j (by have:=hu2.size;omega))) hu2 hd2;clear hd2 hu2;by_cases hc:rcd=0
  .have HZ:=qqh (hc▸hrcd.out:0=r.cd);subst hc;go_wp2_with fail
   refine HF.o.1.mono ?_;rintro e w3 ⟨rfl,hd3,hu3⟩;have HE:=Y2 hd3 hu3;have HR:=HH.o.2.1;rw[if_pos HZ.o.symm]at HR;rw[<-HR]at HE⊢;replace HR:=qqh HR;clear hd3 hu3;go_wp2
   go_ret
   exact⟨rfl,HE.o.1,HF.o.2.1.trans HE.o.2⟩
  .have q0:(rcd==0)=false:=by simpa using hc
   have HZ:=qqh hc;go_wp2
   go_ret
   have HR:=HH.o.2.1;rw[if_neg (by rw[<-hrcd.out];exact HZ.o)]at HR;rw[HR,hrcd.out];refine⟨rfl,?_,HF.o.2.1⟩;rw[HH.o.2.2];exact HF.o.2.2
end
end Go.Proofs.YtfhfbpmlnjdfoaaGreatDoor
