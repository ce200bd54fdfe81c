/- An open write, -/
import Derived.Test.YtfhfbpmlnjdfoaaGreatDoorG01
import Derived.Great.BuildSlice
import Derived.Deep.DrawnRows
set_option maxRecDepth 100000
set_option maxHeartbeats 1000000
namespace Go.Proofs.YtfhfbpmlnjdfoaaGreatDoor
open Go Go.RowKit Tryz
abbrev wrC(s:Int)(x:Bk):List Value:=.int .i64 s::bkC x
theorem wrC_len(s:Int)(x:Bk):(wrC s x).length=x.length+1:=by simp[wrC,zn]
theorem vW(s:Int)(x:Bk):∀v∈wrC s x,v.oneCell'=true:=by
 intro v hv;rcases qzr.1 hv with rfl|h
 .rfl
 .exact zv x v h
theorem yL(off:Nat)(cs z:Array Value):(Array.foldl (fun(cs:Array Value) (x:Value×Nat)=>cs.setIfInBounds (off+x.2) x.1) z cs.zipIdx).size=z.size/\
  ∀k,(Array.foldl (fun(cs:Array Value) (x:Value×Nat)=>cs.setIfInBounds (off+x.2) x.1) z cs.zipIdx)[k]?=if off<=k/\k<off+cs.size/\k<z.size then cs[k-off]? else z[k]?:=by
 rw[<-Array.foldl_toList,Array.toList_zipIdx];obtain⟨h1,h2⟩:=Go.Great.foldl_set off cs.toList 0 z;exact⟨h1,fun k=>by rw[h2 k];simp⟩
theorem xj(pl:Nat->Option (Nat×Nat))(z:Array Value)(i off size:Nat)(v:Value)(rest:List (Nat×Value))(hp:pl i=some (off,size))(hv:v.cells.size=size)(hz:off+size<=z.size):
  Instr.fill pl z ((i,v)::rest)=Instr.fill pl (Array.foldl (fun(cs:Array Value) (x:Value×Nat)=>cs.setIfInBounds (off+x.2) x.1) z v.cells.zipIdx) rest:=by
 show(match pl i with|none=>none|some (off,size)=>_)=_
 rw[hp];show(if(decide (v.cells.size≠size)||decide (off+v.cells.size>z.size))=true then none else _)=_;rw[if_neg (by simp[hv];omega)]
theorem Yn(p q:Value)(hp:p.cells.size=1)(hq:q.cells.size=64)(z:Array Value)(hz:z.size=65)(pl:Nat->Option (Nat×Nat))(h0:pl 0=some (0,1))(h1:pl 1=some (1,64)):
  Instr.fill pl z [(0,p),(1,q)]=some (p.cells.toList++q.cells.toList).toArray:=by
 obtain⟨a1,a2⟩:=yL 0 p.cells z;obtain⟨b1,b2⟩:=yL 1 q.cells (Array.foldl (fun(cs:Array Value) (x:Value×Nat)=>cs.setIfInBounds (0+x.2) x.1) z p.cells.zipIdx);rw[xj pl z 0 0 1 p _ h0 hp (by omega),xj pl _ 1 1 64 q _ h1 hq (by rw[a1];omega)];show some _=_
 congr 1
 apply qxd
 intro k;rw[b2 k,a1,hz,hq];by_cases hk:k<65
 .by_cases hk0:k=0
  .subst hk0;rw[if_neg (by omega),a2 0,if_pos ⟨by omega,by omega,by omega⟩];rw[show((p.cells.toList++q.cells.toList).toArray)[0]?=(p.cells.toList++q.cells.toList)[0]? by rw[qyv],qyi (by simp;omega)];simp
  .rw [if_pos ⟨by omega,by omega,hk⟩,show((p.cells.toList++q.cells.toList).toArray)[k]?=(p.cells.toList++q.cells.toList)[k]? by rw[qyv],qyj (by simp;omega)];simp[hp]
 .rw [if_neg (by omega),a2 k,if_neg (by omega),qxf (by omega),qxf (by simp;omega)]
theorem TO:(prog.info? 131).map (fun i=>(i.zero.map (·.cells.size),i.size,i.bytes))=some (some 65,65,72):=by kernel_rfl
theorem TP:(match prog.underlying 131 with|some (.struct fs)=>fs.toList.mapM (fun f=>(prog.info? f.type).map fun i=>(f.offset,i.size))|_=>none)=some [(0,1),(1,64)]:=by kernel_rfl
theorem xh:∃i z,prog.info? 131=some i/\i.zero=some z/\z.cells.size=65/\i.size=65/\i.bytes=72:=by
 obtain⟨i,hi,h⟩:=qYi.1 TO;simp only[qYk]at h;obtain⟨h1,h2,h3⟩:=h;obtain⟨z,hz,hs⟩:=qYi.1 h1;exact⟨i,z,hi,hz,hs,h2,h3⟩
theorem vX(p q:Value)(hp:p.cells.size=1)(hq:q.cells.size=64)(w:World):(Instr.build 131 #[(0,p),(1,q)]).run prog w=.ok (.agg (p.cells.toList++q.cells.toList).toArray) w:=by
 refine run_build w _ _ _ ?_;obtain⟨i,z,hi,hz,hs,_,_⟩:=xh;have hpl:=TP;have hu:=underlying131;unfold Program.built;rw[hu]at hpl;rw[hi,hu];simp only[hz];simp only at hpl;rw[hpl];exact Yn p q hp hq z.cells hs _ rfl rfl
theorem qo(v:Value)(hv:v.cells.size=65)(w:World):(Instr.buildSlice 121 1 #[(0,v)]).run prog w=.ok (.slice (some ⟨w.heap.size,0,none⟩) 1 1) (w.alloc (.cells v.cells 131)):=by
 obtain⟨i,z,hi,hz,hs,hsz,_⟩:=xh;refine run_buildSlice w _ _ 1 _ _ i z underlying121 hi hz (by rw[hsz];decide) (by rw[hsz];decide) ?_;obtain⟨a1,a2⟩:=yL 0 v.cells ((Array.range (1*i.size)).map (z.cells[·%z.cells.size]!));rw[show(#[(0,v)]:Array (Nat×Value)).toList=[(0,v)]from rfl];rw[xj _ _ 0 0 65 v _ (by simp[hsz]) hv (by simp[hsz])];show some _=_
 congr 1
 apply qxd
 intro k;rw[a2 k];by_cases hk:k<65
 .rw [if_pos ⟨by omega,by omega,by simp[hsz];omega⟩];rfl
 .rw [if_neg (by omega),qxf (by simp[hsz];omega),qxf (by omega)]
theorem Yo(dst:Option Tmp)(ty:TypeId)(pos:String)(after:Array Edge)(p q:Operand)(a:Act)(w:World)(K:Act->World->Prop)(Q:Exit->Act->World->Prop)(hp:(a.eval p).cells.size=1)(hq:(a.eval q).cells.size=64):
  Oper.wp prog {dst:=dst,op:=.build 131 #[(0,p),(1,q)],type:=ty,pos:=pos,after:=after,guard:=none} a w K Q=K (a.put dst (.agg ((a.eval p).cells.toList++(a.eval q).cells.toList).toArray)) w:=by
 unfold Oper.wp execOp;have:=vX (a.eval p) (a.eval q) hp hq w;simp only[qzp,qzm,qzo,qYm,this,qYl];rfl
theorem Uf(dst:Option Tmp)(ty:TypeId)(pos:String)(after:Array Edge)(p:Operand)(a:Act)(w:World)(K:Act->World->Prop)(Q:Exit->Act->World->Prop)(hp:(a.eval p).cells.size=65):
  Oper.wp prog {dst:=dst,op:=.buildSlice 121 1 #[(0,p)],type:=ty,pos:=pos,after:=after,guard:=none} a w K Q=K (a.put dst (.slice (some ⟨w.heap.size,0,none⟩) 1 1)) (w.alloc (.cells (a.eval p).cells 131)):=by
 unfold Oper.wp execOp;have:=qo (a.eval p) hp w;simp only[qzp,qzm,qzo,qYm,this,qYl];rfl
theorem rW(a:Act)(p q:Operand)(w:World)(hp:(a.eval p).cells.size=1)(hq:(a.eval q).cells.size=64):
  (Instr.build 131 ((#[(0,p),(1,q)]:Array (Nat×Operand)).map fun(i,x)=>(i,a.eval x))).run prog w=.ok (.agg ((a.eval p).cells.toList++(a.eval q).cells.toList).toArray) w:=by
 have:=vX (a.eval p) (a.eval q) hp hq w;simp only[qzp,qzm,qzo];exact this
theorem Yp(a:Act)(p:Operand)(w:World)(hp:(a.eval p).cells.size=65):
  (Instr.buildSlice 121 1 ((#[(0,p)]:Array (Nat×Operand)).map fun(i,x)=>(i,a.eval x))).run prog w=.ok (.slice (some ⟨w.heap.size,0,none⟩) 1 1) (w.alloc (.cells (a.eval p).cells 131)):=by
 have:=qo (a.eval p) hp w;simp only[qzp,qzm,qzo];exact this
theorem Zl:Tryz.zeroCells131.size=65:=by kernel_rfl
theorem TQ(s:Int)(x:Bk)(hx:x.length=64):List.foldl (fun(cs:Array Value) (x:Value×Nat)=>cs.setIfInBounds (1+x.2) x.1) (Tryz.zeroCells131.setIfInBounds 0 (.int .i64 s)) (bkC x).zipIdx=(wrC s x).toArray:=by
 have hb:(bkC x).length=64:=by rw[zn,hx]
 have hz1:(Tryz.zeroCells131.setIfInBounds 0 (.int .i64 s)).size=65:=by rw[Array.size_setIfInBounds,Zl]
 obtain⟨_,f2⟩:=Go.Great.foldl_set 1 (bkC x) 0 (Tryz.zeroCells131.setIfInBounds 0 (.int .i64 s));apply qxd
 intro k;rw[f2 k,hz1];by_cases hk:k<65
 .by_cases hk0:k=0
  .subst hk0;rw[if_neg (by omega),Array.getElem?_setIfInBounds_self_of_lt (by rw[Zl];omega)];simp
  .rw [if_pos ⟨by omega,by omega,hk⟩];obtain⟨m,rfl⟩:∃m,k=m+1:=⟨k-1,by omega⟩
   simp
 .rw [if_neg (by omega),qxf (by omega),qxf (by simp[hb];omega)]
theorem yl{P:Program}{w:World}{e:TypeId}{k n m:Nat}{v x':Value}{xs news:List Value}(t ty:TypeId)
  (i:TypeInfo) (z:Value) (bytes:Nat) (ht:P.underlying t=some (.slice e)) (hi:P.info? e=some i) (hz:i.zero=some z)
  (hsize:i.size=k) (hby:i.bytes=bytes) (hzs:z.cells.size=k) (hsz:0<k)
  (hown:Sl w e k v n xs) (hr:Rd w k x' m news) (h1:∀u∈news,u.oneCell'=true) (h63:n+m<=maxLen) (hbytes:(n+m)*bytes<=140737488355328):
  ∃v' w',(Builtin.append_ #[t,t] ty #[v,x']).run P w=.ok v' w'/\Sl w' e k v' (n+m) (xs++news)/\Upd (ownS v) w w'/\blockFrom w v v':=by
 obtain⟨hnl,hml,ao,xc,rfl,hx0,hxc⟩:=hr;cases ao with
 |none=>
  have hm0:=hx0 rfl;subst hm0;obtain rfl:news=[]:=qyd (by simpa using hnl);refine⟨v,w,?_,by simpa using hown,uur _ _,.inl rfl⟩;obtain⟨_,⟨rfl,rfl⟩|⟨g,off,cap,cur,rfl,hg,hnc,hcm,hcs,hcell⟩⟩:=hown
  .simp [Builtin.append_,run_underlying ht,sizeOf,typeInfo,hi,Builtin.lenOf,Builtin.firstCells]
  .simp [Builtin.append_,run_underlying ht,sizeOf,typeInfo,hi,Builtin.lenOf,Builtin.firstCells,hnc,storeCells]
 |some ad=>
  have hac':=hxc ad rfl;have hown':=hown;obtain⟨hl,⟨rfl,rfl⟩|⟨g,off,cap,cur,rfl,hg,hnc,hcm,hcs,hcell⟩⟩:=hown
  .obtain rfl:xs=[]:=qyd (by simpa using hl);cases m with
   |zero=>
    obtain rfl:news=[]:=qyd (by simpa using hnl);refine⟨.slice none 0 0,w,?_,by simpa using hown',uur _ _,.inl rfl⟩;simp[Builtin.append_,run_underlying ht,sizeOf,typeInfo,hi,Builtin.lenOf,Builtin.firstCells,loadCells,loadCellsFrom]
   |succ m=>
    obtain⟨v',w',hrun,r1,r2,_⟩:=run_append_own (P:=P) w w.heap.size t ty e i z k bytes ht hi hz hsize hby hzs hsz (.slice none 0 0) 0 [] (World.ownsRow_nil w _ e k) ad (m+1) xc news hnl hac' h1 h63 hbytes (qXv _);refine⟨v',w',hrun,Sl.of_own r1,Upd.jz r2 (fun g hg _=>by cases hg),?_⟩;rcases r1.2 with⟨rfl,h0⟩|⟨g',cap',cur',rfl,hb',_⟩
    .omega
    .exact .inr ⟨g',rfl,hb'⟩
  .by_cases hroom:n+m<=cap
   .have hm:=qYb k hroom;rw[Nat.add_mul]at hm;subst hsize;have hrun:=run_append_room_cells (P:=P) w t ty e i ht hi g off n cap ad m xc news hnl hac' h1 hroom (fun j hj=>by rw[za hg];simp;omega) (fun j _=>zg hg _);obtain⟨cur',h2,h3,h4⟩:=zA news (off+n*i.size) w g cur e (0,0) hg;refine⟨_,_,hrun,⟨by rw[qzd,hl,hnl,Nat.add_mul],.inr ⟨g,off,cap,cur',rfl,h2,hroom,hcm,by omega,fun j u hj=>?_⟩⟩,yp _ w g _ news rfl,.inl rfl⟩;rw[h4];by_cases hj1:j<xs.length
    .rw [qyi hj1]at hj;rw[if_neg (by omega)];exact hcell j u hj
    .rw [qyj (by omega)]at hj;have hlt:=(qyp.1 hj).1;rw[if_pos ⟨by omega,by omega,by omega⟩];have:off+j-(off+n*i.size)=j-xs.length:=by omega
     rw[this];exact hj
   .obtain ⟨v',w',hrun,r1,r2⟩:=run_append_arg_grows (P:=P) w t ty e i z k bytes ht hi hz hsize hby hzs hsz ⟨g,off,none⟩ n cap xs hl (fun j u hj=>by rw[qxa,za hg];exact hcell j u hj) ad m xc news hnl hac' (by omega) h63 hbytes;refine⟨v',w',hrun,Sl.of_own r1,Upd.jz r2 (fun g hg _=>by cases hg),?_⟩;rcases r1.2 with⟨rfl,h0⟩|⟨g',cap',cur',rfl,hb',_⟩
    .omega
    .exact .inr ⟨g',rfl,hb'⟩
attribute [local go_sem↓] Yo Uf rW Yp Go.wp_at_zero Go.wp_at_succ
theorem Yq(O:List (Nat×Bk))(s:Nat)(x:Bk):opC (O++[(s,x)])=opC O++wrC s x:=by simp[opC,wrC]
theorem zw(x:Bk)(hx:x.length=64):(prog.info? 54).map (·.size)=some (bkC x).length:=by
 obtain⟨i,hi,_,h1,_⟩:=qZa XO;rw[hi,zn,hx,Option.map_some,h1]
theorem DvGood.write{F:List Bk}{O:List (Nat×Bk)}{P:List Int}(h:DvGood F O P){s:Nat}{x:Bk}(hs:s<F.length)(hx:x.length=64)(ho:O.length<65536):DvGood F (O++[(s,x)]) P:={h with
 o64:=by intro p hp;rcases qzq.1 hp with h1|h1;exact h.o64 p h1;simp at h1;subst h1;exact⟨hx,hs⟩
 ol:=by simp;omega}
theorem zm{w:World}{a:Addr}{v:Value}(h:w.cell? a=some v)(o:Obj):(w.alloc o).cell? a=some v:=by
 rw[World.cell?_alloc_some w a o (by rw[h];rfl),h]
theorem Upd.ja{S:Nat->Prop}{w w':World}(hu:Upd S w w'){g o:Nat}{v:Value}(h:w.cell? ⟨g,o,none⟩=some v)(hn:¬S g):w'.cell? ⟨g,o,none⟩=some v:=by
 have e:=hu.block g (qYn w _ h) hn;unfold World.cell? at*;simp only[e];exact h
theorem Upd.range{S:Nat->Prop}{w w':World}(hu:Upd S w w'){g o:Nat}{cs:List Value}(h:w.rangeAt g o cs)(hn:¬S g):w'.rangeAt g o cs:=fun j v hv=>hu.ja (h j v hv) hn
theorem zt{w:World}{g o b o':Nat}{v u:Value}(h:w.cell? ⟨g,o,none⟩=some v)(hne:¬b=g):(w.setCell ⟨b,o',none⟩ u).cell? ⟨g,o,none⟩=some v:=by
 rw[World.cell?_setCell_other _ _ _ _ (fun e=>hne (congrArg Addr.block e)),h]
theorem zF{w:World}{g o b o':Nat}{cs:List Value}{u:Value}(h:w.rangeAt g o cs)(hne:¬b=g):(w.setCell ⟨b,o',none⟩ u).rangeAt g o cs:=fun j v hv=>zt (h j v hv) hne
theorem zI{P:Program}{ops:Array Oper}{o:Oper}{a:Act}{w:World}{K:Act->World->Prop}{Q:Exit->Act->World->Prop}{E:Prop}
  (hg:o.guard=none) (s x:Operand) (t:TypeId) (hop:o.op=Op.call {callee:=Callee.builtin Builtin.append,args:= #[s,x],argTypes:= #[t,t]})
  {vs vx v':Value} {w':World} (hs:a.eval s=vs) (hx:a.eval x=vx) (hrun:(Builtin.append_ #[t,t] o.type #[vs,vx]).run P w=.ok v' w')
  (hK:K (a.put o.dst v') w'):
  if Region.wanted o (yielded ops a.tmps)=true then Oper.wp P o a w K Q else E:=by
 have hw:Region.wanted o (yielded ops a.tmps)=true:=by simp[Region.wanted,hg]
 rw[if_pos hw];unfold Oper.wp;simp[execOp,hop,resolve,invoke,builtin,hs,hx,hrun,Result.andThen];exact hK
theorem SO{S:Nat->Prop}{w:World}{b g0 g1 g2:Nat}{F:List Bk}{O:List (Nat×Bk)}{P:List Int}(h:Dv S w b F O P)(hn:∀j,w.heap.size<=j->S j)(s:Nat)(x:Bk)(hs:s<F.length)(hx:x.length=64)(hO:O.length<65536)
  (c0:w.cell? ⟨g0,0,none⟩=some (.pointer (some ⟨b,0,none⟩))) (c1:w.cell? ⟨g1,0,none⟩=some (.int .i64 (s:Int))) (c2:w.rangeAt g2 0 (bkC x))
  (s0:¬S g0) (s1:¬S g1) (s2:¬S g2):
  Calls prog 64 #[.pointer (some ⟨g0,0,none⟩),.pointer (some ⟨g1,0,none⟩),.pointer (some ⟨g2,0,none⟩)] w fun e w'=>e=.returned (.tuple #[])/\Dv S w' b F (O++[(s,x)]) P/\Upd S w w':=by
 obtain⟨vf,vo,vp,h,hS⟩:=h;obtain⟨i,z,hi,hz,hzs,hsz,hby⟩:=xh;have hu:Upd (fun _=>False) w (w.alloc (.cells (wrC s x).toArray 131)).drew:=((uur _ _).alloc _).drew;have hd:=h.new hu;have hrd:Rd (w.alloc (.cells (wrC s x).toArray 131)).drew 65 (.slice (some ⟨w.heap.size,0,none⟩) 1 1) 1 (wrC s x):=
  Rd.keep (Rd.fresh w (wrC s x) 131 1 (by rw[wrC_len,hx]) (by unfold maxLen;omega)) ((uur (fun _=>False) _).drew) (fun _ _ h=>h)
 obtain⟨v',w1,hrun,hs1,hu1,hbf⟩:=yl 121 121 i z 72 underlying121 hi hz hsz hby hzs (by decide) hd.os hrd (vW s x) (by unfold maxLen;omega) (by omega);rw[<-Yq]at hs1;have hln:O.length+1=(O++[(s,x)]).length:=by simp
 rw[hln]at hs1;obtain⟨ao1,c1',rfl⟩:=hs1.rd.jd;have hD:=qqh (hd.setOpen hu1 hs1 hbf (hd.good.write hs hx hO));have hstr1:=(hu1.block b hd.blt (fun e=>hd.ob e)).trans hd.str;have k1:=za hstr1 1;have k2:=zg hstr1 1;simp at k1;obtain⟨-,d1,-⟩:=h.c;have hbl:=TQ (s:Int) x hx;have hut:=underlying54;have hsi:=zw x hx;have hlx:(bkC x).length=64:=by rw[zn,hx]
 have h1x:=zv x;have hS1:∀g,¬S g->¬ownS vo g:=fun g hg e=>hg (hS g (.inr (.inr (.inl e))));have q0:=hu1.ja (zm c0 _) (hS1 g0 s0);have q1:=hu1.ja (zm c1 _) (hS1 g1 s1);have q2:=hu1.range (qYp c2 _) (hS1 g2 s2);have p0:¬b=g0:=fun e=>s0 (e▸hS b (.inl rfl));have p1:¬b=g1:=fun e=>s1 (e▸hS b (.inl rfl));have p2:¬b=g2:=fun e=>s2 (e▸hS b (.inl rfl));have d2:=zm d1 (.cells (wrC s x).toArray 131);have n0:=World.new_ne w _ c0;have n1:=World.new_ne w _ c1;have nb:=World.new_ne w _ d1;have HX:=Y5 hS hn hbf hu hu1;clear hS1 hd hs1 hu1 hbf hu hrd hstr1 hS hn hln h;go_enter func64,ntmps64
 refine qZj (S:=fun W=>W.cell? ⟨g0,0,none⟩=some (.pointer (some ⟨b,0,none⟩))/\W.cell? ⟨g1,0,none⟩=some (.int .i64 (s:Int))/\W.rangeAt g2 0 (bkC x)) (by kernel_rfl) (by(go_split_ands;(simp only[qYq,qYo]at*);((repeat' constructor)<;>first|assumption|(apply zm;assumption)|(refine zt ?_ ?_<;>assumption)|(refine zF ?_ ?_<;>assumption)|(apply qYp;assumption)|(apply qYt;assumption)))) (fun hHeld=>?_);refine Wl.i [0,1,2,3,5] ?_;iterate 5 refine Wl.t hHeld ?_
 refine Wl.o ?_;refine Wl.l 6 (fun w h=>h.2.2) hut hsi hHeld ?_;refine Wl.i [7] (Wl.t hHeld (Wl.o ?_));refine qZe (rs:=[4,8]) (by kernel_rfl) (by simp) ?_;refine qxb rfl (fun K hK=>?_) (qxb rfl (fun K hK=>?_) qxc)
 .go_simp
  refine hK.o _ _ (by(go_split_ands;(simp only[qYq,qYo]at*);((repeat' constructor)<;>first|assumption|(apply zm;assumption)|(refine zt ?_ ?_<;>assumption)|(refine zF ?_ ?_<;>assumption)|(apply qYp;assumption)|(apply qYt;assumption)))) (fun hH1=>?_);clear hK K;refine Wl.r 8 (fun K hK=>?_);go_simp
  refine hK.o _ _ (by(go_split_ands;(simp only[qYq,qYo]at*);((repeat' constructor)<;>first|assumption|(apply zm;assumption)|(refine zt ?_ ?_<;>assumption)|(refine zF ?_ ?_<;>assumption)|(apply qYp;assumption)|(apply qYt;assumption)))) (fun hH2=>?_);clear hK K;refine Wl.r 9 (fun K hK=>?_);refine zI rfl _ _ _ rfl rfl rfl hrun ?_;refine hK.o _ _ (by(go_split_ands;(simp only[qYq,qYo]at*);((repeat' constructor)<;>first|assumption|(apply zm;assumption)|(refine zt ?_ ?_<;>assumption)|(refine zF ?_ ?_<;>assumption)|(apply qYp;assumption)|(apply qYt;assumption)))) (fun hH3=>?_);clear hK K;refine Wl.i [10,11] ?_;iterate 2 refine Wl.t hH3 ?_
  refine Wl.o ?_;refine Wl.r 12 (fun K hK=>?_);go_simp
  refine hK.o _ _ (by(go_split_ands;(simp only[qYq,qYo]at*);((repeat' constructor)<;>first|assumption|(apply zm;assumption)|(refine zt ?_ ?_<;>assumption)|(refine zF ?_ ?_<;>assumption)|(apply qYp;assumption)|(apply qYt;assumption)))) (fun hH4=>?_);clear hK K;refine Wl.d ?_
  go_end0
  obtain⟨hS,hn,hbf,hu,hu1⟩:=HX.o;have hD':=hD.out;have hl':(O++[(s,x)]).length=O.length+1:=by simp
  rw[hl']at hD' hbf;refine⟨rfl,⟨vf,_,vp,hD',?_⟩,?_⟩
  .rintro j (rfl|h|h|h)
   .exact hS _ (.inl rfl)
   .exact hS _ (.inr (.inl h))
   .rcases hbf with e|⟨g,eg,hge⟩
    .exact hS _ (.inr (.inr (.inl (e▸h))))
    .rw [eg]at h;cases h;exact hn _ (qXx hu.size hge)
   .exact hS _ (.inr (.inr (.inr h)))
  .exact ((hu.mono (fun _ _ h=>h.elim)).trans (hu1.mono (fun k _ hk=>hS _ (.inr (.inr (.inl hk)))))).trans (Upd.mono (zj _ _ _ _) (fun k _ hk=>hk▸hS _ (.inl rfl)))
 .go_simp
  refine hK.o _ _ (by(go_split_ands;(simp only[qYq,qYo]at*);((repeat' constructor)<;>first|assumption|(apply zm;assumption)|(refine zt ?_ ?_<;>assumption)|(refine zF ?_ ?_<;>assumption)|(apply qYp;assumption)|(apply qYt;assumption)))) (fun hH1=>?_);clear hK K;refine Wl.r 4 (fun K hK=>?_);go_simp
  refine hK.o _ _ (by(go_split_ands;(simp only[qYq,qYo]at*);((repeat' constructor)<;>first|assumption|(apply zm;assumption)|(refine zt ?_ ?_<;>assumption)|(refine zF ?_ ?_<;>assumption)|(apply qYp;assumption)|(apply qYt;assumption)))) (fun hH2=>?_);clear hK K;refine Wl.r 9 (fun K hK=>?_);refine zI rfl _ _ _ rfl rfl rfl hrun ?_;refine hK.o _ _ (by(go_split_ands;(simp only[qYq,qYo]at*);((repeat' constructor)<;>first|assumption|(apply zm;assumption)|(refine zt ?_ ?_<;>assumption)|(refine zF ?_ ?_<;>assumption)|(apply qYp;assumption)|(apply qYt;assumption)))) (fun hH3=>?_);clear hK K;refine Wl.i [10,11] ?_;iterate 2 refine Wl.t hH3 ?_
  refine Wl.o ?_;refine Wl.r 12 (fun K hK=>?_);go_simp
  refine hK.o _ _ (by(go_split_ands;(simp only[qYq,qYo]at*);((repeat' constructor)<;>first|assumption|(apply zm;assumption)|(refine zt ?_ ?_<;>assumption)|(refine zF ?_ ?_<;>assumption)|(apply qYp;assumption)|(apply qYt;assumption)))) (fun hH4=>?_);clear hK K;refine Wl.d ?_
  go_end0
  obtain⟨hS,hn,hbf,hu,hu1⟩:=HX.o;have hD':=hD.out;have hl':(O++[(s,x)]).length=O.length+1:=by simp
  rw[hl']at hD' hbf;refine⟨rfl,⟨vf,_,vp,hD',?_⟩,?_⟩
  .rintro j (rfl|h|h|h)
   .exact hS _ (.inl rfl)
   .exact hS _ (.inr (.inl h))
   .rcases hbf with e|⟨g,eg,hge⟩
    .exact hS _ (.inr (.inr (.inl (e▸h))))
    .rw [eg]at h;cases h;exact hn _ (qXx hu.size hge)
   .exact hS _ (.inr (.inr (.inr h)))
  .exact ((hu.mono (fun _ _ h=>h.elim)).trans (hu1.mono (fun k _ hk=>hS _ (.inr (.inr (.inl hk)))))).trans (Upd.mono (zj _ _ _ _) (fun k _ hk=>hk▸hS _ (.inl rfl)))
theorem Dv.jF{S T:Nat->Prop}{w:World}{b:Nat}{F:List Bk}{O:List (Nat×Bk)}{P:List Int}(h:Dv S w b F O P)(hT:∀j,S j->j<w.heap.size->T j):Dv T w b F O P:=by
 obtain⟨vf,vo,vp,h,hS⟩:=h;exact⟨vf,vo,vp,h,fun j hj=>hT j (hS j hj) (h.slt j hj)⟩
theorem Dv.wide{S T:Nat->Prop}{w:World}{b:Nat}{F:List Bk}{O:List (Nat×Bk)}{P:List Int}(h:Dv S w b F O P)(hT:∀j,S j->T j):Dv T w b F O P:=by
 obtain⟨vf,vo,vp,h,hS⟩:=h;exact⟨vf,vo,vp,h,fun j hj=>hT j (hS j hj)⟩
theorem Dv.sb{S:Nat->Prop}{w:World}{b:Nat}{F:List Bk}{O:List (Nat×Bk)}{P:List Int}(h:Dv S w b F O P):S b/\b<w.heap.size:=by
 obtain⟨vf,vo,vp,h,hS⟩:=h;exact⟨hS b (.inl rfl),h.blt⟩
theorem xO{n:Nat}{s:Int}(h:hasC n s=0):(s.toNat:Int)=s/\s.toNat<n:=by
 unfold hasC at h;split at h
 .omega
 .omega
def Ug(S:Nat->Prop)(w:World)(b:Nat)(F:List Bk)(O:List (Nat×Bk))(P:List Int)(s:Int)(x:Bk)(e:Ending)(w':World):Prop:=
 (hasC F.length s≠0/\e=.returned (.int .i64 (hasC F.length s))/\Dv S w' b F O P/\Upd S w w')\/
 (hasC F.length s=0/\fate P=1/\e=.returned (.int .i64 20)/\Dv S w' b F O P.tail/\Upd S w w')\/
 (hasC F.length s=0/\fate P=0/\e=.returned (.int .i64 0)/\Dv S w' b F (O++[(s.toNat,x)]) P.tail/\Upd S w w')\/
 (hasC F.length s=0/\fate P≠0/\fate P≠1/\e=.returned (.int .i64 0)/\Dv S w' b F O P.tail/\Upd S w w')
theorem ER{S:Nat->Prop}{w:World}{b:Nat}{F:List Bk}{O:List (Nat×Bk)}{P:List Int}(h:Dv S w b F O P)(hn:∀j,w.heap.size<=j->S j)(s:Int)(x:Bk)(hx:x.length=64)(hO:O.length<65536):
  Calls prog 18 #[.pointer (some ⟨b,0,none⟩),.int .i64 s,bkV x] w (Ug S w b F O P s x):=by
 have hmf:=qqf;have H:=Y4 h hn hx hO;clear h hn hx hO;go_enter func18,ntmps18
 go_wp2_with fail
 rename_i xv cs heq
 obtain rfl:(bkC x).toArray=cs:=by injection heq
 clear heq;have hu:Upd (fun _=>False) w (((w.alloc (.cells #[.pointer (some ⟨b,0,none⟩)] 46)).alloc (.cells #[.int .i64 s] 3)).alloc (.cells (bkC x).toArray 54)):=(((uur _ w).alloc _).alloc _).alloc _;have c0:(((w.alloc (.cells #[.pointer (some ⟨b,0,none⟩)] 46)).alloc (.cells #[.int .i64 s] 3)).alloc (.cells (bkC x).toArray 54)).cell? ⟨w.heap.size,0,none⟩=some (.pointer (some ⟨b,0,none⟩)):=
  zm (zm (za (zc w _ rfl) 0) _) _
 have c1:(((w.alloc (.cells #[.pointer (some ⟨b,0,none⟩)] 46)).alloc (.cells #[.int .i64 s] 3)).alloc (.cells (bkC x).toArray 54)).cell? ⟨w.heap.size+1,0,none⟩=some (.int .i64 s):=
  zm (za (zc _ _ (by simp)) 0) _
 have c2:(((w.alloc (.cells #[.pointer (some ⟨b,0,none⟩)] 46)).alloc (.cells #[.int .i64 s] 3)).alloc (.cells (bkC x).toArray 54)).rangeAt (w.heap.size+1+1) 0 (bkC x):=fun j v hv=>by
  rw[za (zc _ _ (by simp))];simpa using hv
 have hsz:(((w.alloc (.cells #[.pointer (some ⟨b,0,none⟩)] 46)).alloc (.cells #[.int .i64 s] 3)).alloc (.cells (bkC x).toArray 54)).heap.size=w.heap.size+3:=by simp
 generalize (((w.alloc (.cells #[.pointer (some ⟨b,0,none⟩)] 46)).alloc (.cells #[.int .i64 s] 3)).alloc (.cells (bkC x).toArray 54))=w3 at hu c0 c1 c2 hsz⊢;have hd3:Dv S w3 b F O P:=H.o.1.keep hu (fun _ _ h=>h);have HX:=Y4 hd3 hu c2 hsz;clear hd3 hu c2 hsz;refine(EQ HX.o.1 s).mono ?_;rintro e w4 ⟨rfl,rfl⟩;by_cases hz:hasC F.length s=0
 .have HZ:=qqh hz;rw[hz];clear hz;go_wp2_with fail
  obtain⟨hd0,hn,hx,hO⟩:=H.o;obtain⟨-,hu,c2,hsz⟩:=HX.o;have hS':∀j,((S j/\j<w.heap.size)\/w.heap.size+3<=j)->S j:=by
   rintro j (⟨h,-⟩|h)
   .exact h
   .exact hn j (by omega)
  have hd4:Dv (fun j=>(S j/\j<w.heap.size)\/w.heap.size+3<=j) w4 b F O P:=(hd0.jF (fun j hj hl=> .inl ⟨hj,hl⟩)).keep hu (fun _ _ h=>h);have hbS:=hd0.sb;have hzz:=xO HZ.o;have HO:=Y2 hS' hu;have HZ2:=qqh HZ.o;refine(TN hd4 20 64 _ (fun W=>Dv (fun j=>(S j/\j<w.heap.size)\/w.heap.size+3<=j) W b F (O++[(s.toNat,x)]) P.tail/\Upd (fun j=>(S j/\j<w.heap.size)\/w.heap.size+3<=j) w4 W) (fun _ _=>rfl) ?_).mono ?_
  .intro h0 w1 hd1 hu1;have hb4:∀k,¬w.heap.size+k=b:=fun k=>by omega
   refine(SO hd1 (fun j hj=> .inr (by have:=hu1.size;omega)) s.toNat x hzz.2 hx hO (hu1.ja c0 (hb4 0)) (by rw[hzz.1];exact hu1.ja c1 (hb4 1)) (hu1.range c2 (hb4 2)) (by omega) (by omega) (by omega)).mono ?_;rintro e w' ⟨rfl,hD,hU⟩;exact⟨rfl,hD,(hu1.mono (fun j _ hj=>hj▸ .inl ⟨hbS.1,hbS.2⟩)).trans hU⟩
  .clear hd4 hd0 hn hx hO hu c2 hsz hS' c0 c1 hzz;have HB:=qqh hbS;clear hbS;rintro e w5 (⟨h1,rfl,hD,hU⟩|⟨h1,rfl,hD,hU⟩|⟨h1,h2,rfl,hD,hU⟩)
   .have D:=Y3 h1 hD hU;clear h1 hD hU;go_wp2
    go_ret
    exact .inr (.inl ⟨HZ.o,D.out.1,rfl,D.out.2.1.wide HO.o.1,(HO.o.2.mono (fun _ _ h=>h.elim)).trans (D.out.2.2.mono (fun j _ hj=>hj▸HB.o.1))⟩)
   .have D:=Y3 h1 hD hU;clear h1 hD hU;go_wp2
    go_ret
    exact .inr (.inr (.inl ⟨HZ.o,D.out.1,rfl,D.out.2.1.wide HO.o.1,(HO.o.2.mono (fun _ _ h=>h.elim)).trans (D.out.2.2.mono (fun j _ hj=>HO.o.1 j hj))⟩))
   .have D:=Y4 h1 h2 hD hU;clear h1 h2 hD hU;go_wp2
    go_ret
    exact .inr (.inr (.inr ⟨HZ.o,D.out.1,D.out.2.1,rfl,D.out.2.2.1.wide HO.o.1,(HO.o.2.mono (fun _ _ h=>h.elim)).trans (D.out.2.2.2.mono (fun j _ hj=>hj▸HB.o.1))⟩))
 .have HZ:=qqh hz;have hz':(hasC F.length s==0)=false:=by simpa using hz
  clear hz;go_wp2
  go_ret
  exact .inl ⟨HZ.o,rfl,HX.o.1,HX.o.2.1.mono (fun _ _ h=>h.elim)⟩
def flushF(F:List Bk)(O:List (Nat×Bk)):List Bk:=O.foldl (fun F p=>F.set p.1 p.2) F
theorem xz(F:List Bk)(O:List (Nat×Bk))(p:Nat×Bk):flushF F (O++[p])=(flushF F O).set p.1 p.2:=by simp[flushF]
theorem zC(F:List Bk)(O:List (Nat×Bk)):(flushF F O).length=F.length:=by
 induction O generalizing F with
 |nil=>rfl
 |cons p O ih=>simp only[flushF,List.foldl_cons]at ih⊢;rw[ih];simp
theorem TR{O:List (Nat×Bk)}(h:∀p∈O,p.2.length=64){i:Nat}(hi:i<O.length){j:Nat}(hj:j<65):(opC O)[i*65+j]?=(wrC O[i].1 O[i].2)[j]?:=by
 induction O generalizing i with
 |nil=>simp at hi
 |cons x O ih=>
  have h1:=h x (by simp);cases i with
  |zero=>
   simp only[opC,qyg,qYg,qYe,qyx];rw[qyi (by simp[zn,h1];exact hj)]
  |succ i=>
   simp only[opC,qyg,qyw];rw[qyj (by simp[zn,h1];omega)];have:=ih (fun y hy=>h y (by simp[hy])) (i:=i) (by simpa using hi);rw[<-this];simp only[qze,zn,h1]
   congr 1
   omega
section
variable{w w' w2:World}{b:Nat}{vf vo vp v2:Value}{F F':List Bk}{O O':List (Nat×Bk)}{P P':List Int}
theorem DvAt.opRange(h:DvAt w b vf vo vp F O P){k:Nat}(hk:k<O.length):∃g off cap,vo=.slice (some ⟨g,off,none⟩) O.length cap/\g<w.heap.size/\O.length<=cap/\w.rangeAt g (off+k*65) (wrC O[k].1 O[k].2):=by
 obtain⟨hl,⟨_,h0⟩|⟨g,off,cap,cur,rfl,hg,hn,hm,hs,hc⟩⟩:=h.os
 .omega
 .refine ⟨g,off,cap,rfl,zf hg,hn,fun j v hj=>?_⟩;have ho:∀p∈O,p.2.length=64:=fun p hp=>(h.good.o64 p hp).1;have hj':=(qyp.1 hj).1;rw[wrC_len,ho _ (qyz hk)]at hj';rw[za hg,qXr];exact hc _ _ (by rw[TR ho hk hj'];exact hj)
theorem DvAt.jJ(h:DvAt w b vf vo vp F O P){k:Nat}(hk:k<F.length):∃g off cap,vf=.slice (some ⟨g,off,none⟩) F.length cap/\g<w.heap.size/\F.length<=cap/\w.rangeAt g (off+k*64) (bkC F[k])/\w.there g (off+k*64) 64:=by
 obtain⟨hl,⟨_,h0⟩|⟨g,off,cap,cur,rfl,hg,hn,hm,hs,hc⟩⟩:=h.fs
 .omega
 .have:=qYb 64 hn;exact⟨g,off,cap,rfl,zf hg,hn,sC h.good.f64 hg hc hk,Ud hg hk (by omega)⟩
theorem DvAt.setFirm{g off cap:Nat}(h:DvAt w b (.slice (some ⟨g,off,none⟩) F.length cap) vo vp F O P){s:Nat}(hs:s<F.length){x:Bk}(hx:x.length=64):
  DvAt (w.setCells g (off+s*64) (bkC x)) b (.slice (some ⟨g,off,none⟩) F.length cap) vo vp (F.set s x) O P:=by
 have hu:=zq w g (off+s*64) (bkC x);have hne:g≠b:=fun e=>h.fb (by simp[Value.ownBlock,e]);have hfs:=Sl.row_set h.good.f64 h.fs hs hx;rw[qzj]at hfs;have hlen:(F.set s x).length=F.length:=qzj;exact{h with
  str:=(hu.block b h.blt (fun e=>hne e.symm)).trans h.str
  fs:=by rw[hlen];exact hfs
  os:=h.os.keep hu (fun g' hg' e=>h.fo g' (by simp[Value.ownBlock,e]) hg')
  ps:=h.ps.keep hu (fun g' hg' e=>h.fp g' (by simp[Value.ownBlock,e]) hg')
  good:={h.good with f64:=h.good.f64.set s hx,o64:=by rw[hlen];exact h.good.o64,f1:=by rw[hlen];exact h.good.f1,fl:=by rw[hlen];exact h.good.fl}}
theorem DvAt.openNil(h:DvAt w b vf vo vp F O P):DvAt (w.setCell ⟨b,1,none⟩ (.slice none 0 0)) b vf (.slice none 0 0) vp F [] P:=
 {str:=zi h.str 1 _
  fs:=h.fs.jN (zj _ _ _ _) h.fb
  os:=Sl.nil _ _ _
  ps:=h.ps.jN (zj _ _ _ _) h.pb
  good:={h.good with o64:=by simp,ol:=by simp}
  fb:=h.fb
  ob:=by simp[Value.ownBlock]
  pb:=h.pb
  fo:=(Dis.nil _ _ _).symm
  fp:=h.fp
  op:=Dis.nil _ _ _}
end
theorem tt{F:List Bk}{O:List (Nat×Bk)}{k:Nat}(hk:k<O.length):flushF F (O.take (k+1))=(flushF F (O.take k)).set O[k].1 O[k].2:=by
 rw[qXq hk,xz]
theorem TT(s:Int)(x:Bk)(hx:x.length=64):(prog.info? 131).map (·.size)=some (wrC s x).length:=by
 obtain⟨i,z,hi,_,_,h1,_⟩:=xh;rw[hi,wrC_len,hx,Option.map_some,h1]
theorem zX{w:World}{g o b o':Nat}{v:Value}{vs:List Value}(h:w.cell? ⟨g,o,none⟩=some v)(hne:¬g=b):(w.setCells b o' vs).cell? ⟨g,o,none⟩=some v:=by
 rw[World.cell?_setCells_out b vs o' w _ (fun e _=>absurd e hne),h]
theorem SP{S:Nat->Prop}{w:World}{b g0:Nat}{F:List Bk}{O:List (Nat×Bk)}{P:List Int}(h:Dv S w b F O P)(hn:∀j,w.heap.size<=j->S j)
  (c0:w.cell? ⟨g0,0,none⟩=some (.pointer (some ⟨b,0,none⟩))) (s0:¬S g0):
  Calls prog 115 #[.pointer (some ⟨g0,0,none⟩)] w fun e w'=>e=.returned (.tuple #[])/\Dv S w' b (flushF F O) [] P/\Upd S w w':=by
 obtain⟨vf,vo,vp,h,hS⟩:=h;obtain⟨-,d1,-⟩:=h.c;obtain⟨ao,co,rfl⟩:=h.os.rd.jd;have hol:=h.good.ol;have H:=Y5 h hS hn c0 s0;clear h hS hn;go_enter func115,ntmps115
 go_wp2
 go_loopw[8] (fun i wr=>∃k:Nat,k<=O.length/\i=.int .i64 k/\DvAt wr b vf (.slice ao O.length co) vp (flushF F (O.take k)) O P/\Upd (fun j=>vf.ownBlock=some j\/w.heap.size<=j) w wr)
  (fun i _=>O.length-(intOf i).toNat)
 case atStart=>exact⟨0,qYf _,rfl,H.o.1,uur _ _⟩
 case round=>
  obtain⟨k,hk,rfl,hd,hu⟩:=hrel;by_cases hlt:k<O.length
  .obtain ⟨h,hS,hn,c0,s0⟩:=H.o;obtain⟨gO,oO,cO,e1,hgO,hcO,rO⟩:=hd.opRange hlt;obtain⟨rfl,rfl⟩:ao=some ⟨gO,oO,none⟩/\co=cO:=by injection e1 with e1 _ e2;exact⟨e1,e2⟩
   clear e1;have hsx:=hd.good.o64 O[k] (qyz hlt);obtain⟨s,x,hO⟩:∃s x,O[k]=(s,x):=⟨_,_,rfl⟩
   rw[hO]at hsx rO;have HO:=qqh hO;clear hO;obtain⟨hx,hs⟩:=hsx;obtain⟨gF,oF,cF,e1,hgF,hcF,rF,tF⟩:=hd.jJ hs;have hO1:0<=(k:Int)/\(k:Int)<O.length:=⟨by omega,by omega⟩
   have hwr:w.heap.size<=wr.heap.size:=hu.size;go_wp2_with (first
    |refine qZg rfl _ _ rfl _ _ rfl _ _ rO underlying131 rfl (TT _ _ hx) ?_
    |(refine zk rfl _ _ _ rfl _ _ _ rfl rfl (by rw[Zl,wrC_len,hx]) (TT _ _ hx) (vW _ _) ?_)
    |fail)
   rw[zC]at hs e1 hcF;subst e1;have hu1:Upd (fun _=>False) wr (wr.alloc (.cells (wrC (s:Int) x).toArray 131)):=(uur _ _).alloc _;have hd1:=hd.new hu1;have hU1:=hu.trans (hu1.mono (fun _ _ h=>h.elim));have q2:(wr.alloc (.cells (wrC (s:Int) x).toArray 131)).rangeAt wr.heap.size 0 (wrC (s:Int) x):=fun j v hv=>by
    rw[za (zc wr _ rfl)];simpa using hv
   have q1:=q2 0 _ rfl;have q3:(wr.alloc (.cells (wrC (s:Int) x).toArray 131)).rangeAt wr.heap.size 1 (bkC x):=fun j v hv=>by
    have:=q2 (1+j) v (by rw[Nat.add_comm];exact hv);rw[qYe]at this;exact this
   have q4:=qYt tF (.cells (wrC (s:Int) x).toArray 131);have hne0:¬g0=gF:=fun e=>s0 (hS g0 (.inr (.inl (by simp[Value.ownBlock,e]))));have q0:=hU1.ja c0 (by rintro(e|e);exact hne0 (by simpa[Value.ownBlock]using e.symm);have:=qYn w _ c0;simp at this;omega);obtain⟨q5,-,-⟩:=hd1.c;have hneb:¬b=gF:=fun e=>hd.fb (by simp[Value.ownBlock,e]);have hut:=underlying54;have hsi:=zw x hx;have hlx:(bkC x).length=64:=by rw[zn,hx]
   have h1x:=zv x;have hsb:0<=(s:Int)/\(s:Int)<F.length:=⟨by omega,by omega⟩
   have hnm:¬wr.heap.size=gF:=by omega
   rw[qYe]at q1;obtain⟨hsb1,hsb2⟩:=hsb;generalize wr.alloc (.cells (wrC (s:Int) x).toArray 131)=W1 at*;have HH:=Y5 hd1 hU1 hd hu hwr;clear hd1 hU1 hd hu hwr hu1 q2 hS hn h tF rF rO c0 s0 hgO hgF;generalize wr.heap.size=m at*
   go_region_held3 (fun W=>W.cell? ⟨g0,0,none⟩=some (.pointer (some ⟨b,0,none⟩))/\W.cell? ⟨b,0,none⟩=some (.slice (some ⟨gF,oF,none⟩) F.length cF)/\W.cell? ⟨m,0,none⟩=some (.int .i64 (s:Int))/\W.rangeAt m 1 (bkC x)/\W.there gF (oF+s*64) 64)
    ((go_split_ands;(simp only[qYq,World.there_drew,qYo]at*);((repeat' constructor)<;>first|assumption|(apply World.there_setCells;assumption)|(refine zX ?_ ?_<;>assumption)|(refine World.rangeAt_setCells_apart (by assumption) _ _ _ (by omega)))))
    (fail)
   have hset:DvAt (W1.drew.setCells gF (oF+s*64) (bkC x)) b (.slice (some ⟨gF,oF,none⟩) F.length cF) (.slice (some ⟨gO,oO,none⟩) O.length co) vp (flushF F (O.take (k+1))) O P:=by
    obtain⟨hd1,hU1,hd,hu,hwr⟩:=HH.o;have h2:=hd1.new ((uur (fun _=>False) _).drew);rw[<-zC F (O.take k)]at h2;have:=h2.setFirm (s:=s) (x:=x) (by rw[zC];exact hs) hx;rw[zC]at this;rw[tt hlt,HO.o];exact this
   have hUs:Upd (fun j=>(Value.slice (some ⟨gF,oF,none⟩) F.length cF).ownBlock=some j\/w.heap.size<=j) w (W1.drew.setCells gF (oF+s*64) (bkC x)):=
    HH.o.2.1.drew.trans ((zq W1.drew gF (oF+s*64) (bkC x)).mono (fun j _ e=> .inl (by simp[Value.ownBlock,e])))
   have HS:=Y2 hset hUs;clear hset hUs;go_wp2
   go_roundw
   case rel=>exact⟨k+1,by omega,by go_num,HS.o.1,HS.o.2⟩
   case measure=>simp[intOf];omega
  .obtain rfl:k=O.length:=by omega
   rw[List.take_length]at hd;obtain⟨h,hS,hn,c0,s0⟩:=H.o;have hUS:Upd S w wr:=hu.mono (fun j _ e=>e.elim (fun e=>hS j (.inr (.inl e))) (hn j));have q0:=hUS.ja c0 s0;have q1:=hd.fz 1;obtain⟨-,q2,-⟩:=hd.c;have HH:=Y4 hd hUS hS hn;clear hd hUS hu h hS hn c0 s0;go_wp2
   go_end0
   obtain⟨hd,hUS,hS,hn⟩:=HH.o;refine⟨rfl,⟨vf,_,vp,hd.openNil,?_⟩,hUS.trans (Upd.mono (zj _ _ _ _) (fun k _ hk=>hk▸hS _ (.inl rfl)))⟩;rintro j (rfl|h|h|h)
   .exact hS _ (.inl rfl)
   .exact hS _ (.inr (.inl h))
   .cases h
   .exact hS _ (.inr (.inr (.inr h)))
def Uh(S:Nat->Prop)(w:World)(b:Nat)(F:List Bk)(O:List (Nat×Bk))(P:List Int)(e:Ending)(w':World):Prop:=
 (fate P=1/\e=.returned (.int .i64 21)/\Dv S w' b F O P.tail/\Upd S w w')\/
 (fate P=0/\e=.returned (.int .i64 0)/\Dv S w' b (flushF F O) [] P.tail/\Upd S w w')\/
 (fate P≠0/\fate P≠1/\e=.returned (.int .i64 0)/\Dv S w' b F O P.tail/\Upd S w w')
theorem ES{S:Nat->Prop}{w:World}{b:Nat}{F:List Bk}{O:List (Nat×Bk)}{P:List Int}(h:Dv S w b F O P)(hn:∀j,w.heap.size<=j->S j):
  Calls prog 46 #[.pointer (some ⟨b,0,none⟩)] w (Uh S w b F O P):=by
 have hmf:=qqf;have H:=Y2 h hn;clear h hn;go_enter func46,ntmps46
 go_wp2_with fail
 have hu:Upd (fun _=>False) w (w.alloc (.cells #[.pointer (some ⟨b,0,none⟩)] 46)):=(uur _ w).alloc _;have c0:(w.alloc (.cells #[.pointer (some ⟨b,0,none⟩)] 46)).cell? ⟨w.heap.size,0,none⟩=some (.pointer (some ⟨b,0,none⟩)):=za (zc w _ rfl) 0;have hsz:(w.alloc (.cells #[.pointer (some ⟨b,0,none⟩)] 46)).heap.size=w.heap.size+1:=by simp
 generalize (w.alloc (.cells #[.pointer (some ⟨b,0,none⟩)] 46))=w3 at hu c0 hsz⊢;obtain⟨hd0,hn⟩:=H.o;have hbS:=hd0.sb;have hS':∀j,((S j/\j<w.heap.size)\/w.heap.size+1<=j)->S j:=by
  rintro j (⟨h,-⟩|h)
  .exact h
  .exact hn j (by omega)
 have hd4:Dv (fun j=>(S j/\j<w.heap.size)\/w.heap.size+1<=j) w3 b F O P:=(hd0.jF (fun j hj hl=> .inl ⟨hj,hl⟩)).keep hu (fun _ _ h=>h);have HO:=Y3 hS' hu hbS;refine(TN hd4 21 115 _ (fun W=>Dv (fun j=>(S j/\j<w.heap.size)\/w.heap.size+1<=j) W b (flushF F O) [] P.tail/\Upd (fun j=>(S j/\j<w.heap.size)\/w.heap.size+1<=j) w3 W) (fun _ _=>rfl) ?_).mono ?_
 .intro h0 w1 hd1 hu1;refine(SP hd1 (fun j hj=> .inr (by have:=hu1.size;omega)) (hu1.ja c0 (by omega)) (by omega)).mono ?_;rintro e w' ⟨rfl,hD,hU⟩;exact⟨rfl,hD,(hu1.mono (fun j _ hj=>hj▸ .inl ⟨hbS.1,hbS.2⟩)).trans hU⟩
 .clear hd4 hd0 hn hu hsz hS' c0 hbS;rintro e w5 (⟨h1,rfl,hD,hU⟩|⟨h1,rfl,hD,hU⟩|⟨h1,h2,rfl,hD,hU⟩)
  .have D:=Y3 h1 hD hU;clear h1 hD hU;go_wp2
   go_ret
   exact .inl ⟨D.out.1,rfl,D.out.2.1.wide HO.o.1,(HO.o.2.1.mono (fun _ _ h=>h.elim)).trans (D.out.2.2.mono (fun j _ hj=>hj▸HO.o.2.2.1))⟩
  .have D:=Y3 h1 hD hU;clear h1 hD hU;go_wp2
   go_ret
   exact .inr (.inl ⟨D.out.1,rfl,D.out.2.1.wide HO.o.1,(HO.o.2.1.mono (fun _ _ h=>h.elim)).trans (D.out.2.2.mono (fun j _ hj=>HO.o.1 j hj))⟩)
  .have D:=Y4 h1 h2 hD hU;clear h1 h2 hD hU;go_wp2
   go_ret
   exact .inr (.inr ⟨D.out.1,D.out.2.1,rfl,D.out.2.2.1.wide HO.o.1,(HO.o.2.1.mono (fun _ _ h=>h.elim)).trans (D.out.2.2.2.mono (fun j _ hj=>hj▸HO.o.2.2.1))⟩)
end Go.Proofs.YtfhfbpmlnjdfoaaGreatDoor
