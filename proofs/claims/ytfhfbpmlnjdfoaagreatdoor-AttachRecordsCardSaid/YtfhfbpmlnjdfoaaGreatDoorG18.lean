/- Pages of entries: their numbers may be. Pages: -/
import Derived.Test.YtfhfbpmlnjdfoaaGreatDoorG17
set_option maxRecDepth 100000
set_option maxHeartbeats 4000000
namespace Go.Proofs.YtfhfbpmlnjdfoaaGreatDoor
open Go Go.RowKit
def needN(n:Nat):Nat:=(n-1)/4+1
def partE(E:List Ent)(k:Nat):List Ent:=(E.drop (4*k)).take 4
def padE(l:List Ent):List Ent:=l++List.replicate (4-l.length) Ent.none
def pageXs(seq need:Nat)(E:List Ent)(k:Nat):List Int:=natsI (pgN seq k need (partE E k).length (padE (partE E k)))
def zV(seq:Nat)(E:List Ent)(k:Nat):List Bk:=(List.range k).map fun i=>sectP (pageXs seq (needN E.length) E i)
def pagesB(seq:Nat)(E:List Ent):List Bk:=zV seq E (needN E.length)
def qk(x:Ent):Prop:=x.b<=4095/\x.s<=1023/\x.m<=4294967295
theorem tD(E:List Ent)(k:Nat):(partE E k).length<=4:=by simp[partE];omega
theorem tG{l:List Ent}(h:l.length<=4):(padE l).length=4:=by simp[padE];omega
theorem VP(L:List Ent):(L.flatMap entN).length=L.length*4:=by
 induction L with
 |nil=>rfl
 |cons x L ih=>rw[qyg,qzd,ih,qze,show(entN x).length=4 from rfl];omega
theorem yV(seq need:Nat)(E:List Ent)(k:Nat):(pageXs seq need E k).length=20:=by
 have h:=tG (tD E k);have:((padE (partE E k)).flatMap entN).length=16:=by rw[VP,h]
 simp[pageXs,natsI,pgN,this]
theorem rJ(seq no of many:Nat)(L:List Ent){i:Nat}(hi:i<L.length):rowI (natsI (pgN seq no of many L)) i=natsI (entN (L.getD i Ent.none)):=by
 have h:∀(L:List Ent) (i:Nat),i<L.length->((natsI (L.flatMap entN)).drop (4*i)).take 4=natsI (entN (L.getD i Ent.none)):=by
  intro L
  induction L with
  |nil=>intro i h;simp at h
  |cons x L ih=>
   intro i hi;cases i with
   |zero=>rfl
   |succ i=>
    have e:natsI ((x::L).flatMap entN)=natsI (entN x)++natsI (L.flatMap entN):=by simp[natsI]
    rw[e,show 4*(i+1)=(natsI (entN x)).length+4*i by simp[natsI,entN];omega,List.drop_length_add_append];simpa using ih i (by simpa using hi)
 rw[<-h L i hi];simp only[rowI];rw[<-List.drop_drop];rfl
theorem uE{seq:Nat}{E:List Ent}(hs:seq<=1099511627776)(hE:∀x∈E,qk x)(hn:needN E.length<=256){k:Nat}(hk:k<needN E.length):mayP (pageXs seq (needN E.length) E k)=true:=by
 have hp:=tD E k;have hl:=tG hp;simp only[mayP,qxo,qYz];refine⟨⟨?_,?_⟩,?_⟩
 .simp [withinB,bndP,pageXs,natsI,pgN,inB];omega
 .simp [pageXs,natsI,pgN];omega
 .unfold entsB;rw[qxw];intro i hi;have hi4:i<4:=by simpa using hi
  unfold entB;have h3:(pageXs seq (needN E.length) E k).getD 3 0=((partE E k).length:Int):=by simp[pageXs,natsI,pgN]
  rw[h3];unfold pageXs;rw[rJ _ _ _ _ _ (by omega)];split
  .rename_i hlt
   have hlt':i<(partE E k).length:=by omega
   have e:(padE (partE E k)).getD i Ent.none=(partE E k)[i]:=by
    simp[padE,List.getD_eq_getElem?_getD,List.getElem?_append_left hlt',hlt']
   rw[e];have hm:(partE E k)[i]∈E:=List.mem_of_mem_drop (List.mem_of_mem_take (qyz hlt'));obtain⟨a1,a2,a3⟩:=hE _ hm;generalize (partE E k)[i]=x at*;simp[withinB,bndE,natsI,entN,inB];have:bitN x.d<=1:=by unfold bitN;split<;>omega
   omega
  .rename_i hge
   have e:(padE (partE E k)).getD i Ent.none=Ent.none:=by
    simp only[padE,qyh];rw[qyj (by omega),qys];split<;>rfl
   rw[e];simp[natsI,entN,Ent.none,bitN]
theorem vX(seq:Nat)(E:List Ent)(k:Nat):zV seq E (k+1)=zV seq E k++[sectP (pageXs seq (needN E.length) E k)]:=by simp[zV,List.range_succ]
theorem xg(seq:Nat)(E:List Ent)(k:Nat):(zV seq E k).length=k:=by simp[zV]
theorem Xt(seq:Nat)(E:List Ent)(k:Nat):All64 (zV seq E k):=by
 intro x hx;simp only[zV,qzv]at hx;obtain⟨i,-,rfl⟩:=hx;exact wQ (yV _ _ _ _)
theorem ql(n:Nat)(h2:n<=100000)(w:World):Calls Tryz.prog 54 #[.int .i64 (n:Int)] w fun e w'=>e=.returned (.int .i64 (needN n:Int))/\w=w':=by
 by_cases h1:1<=n
 .exact need_any n h1 h2 w
 .obtain rfl:n=0:=by omega
  go_enter Tryz.func54,Tryz.ntmps54
  go_wp2
  go_ret
  exact⟨rfl,rfl⟩
theorem TF:(Tryz.prog.info? 54).map (fun i=>(i.zero.map (·.cells.size),i.size,i.bytes))=some (some 64,64,64):=by kernel_rfl
theorem xj:∃i z,Tryz.prog.info? 54=some i/\i.zero=some z/\z.cells.size=64/\i.size=64/\i.bytes=64:=by
 obtain⟨i,hi,h⟩:=qYi.1 TF;simp only[qYk]at h;obtain⟨h1,h2,h3⟩:=h;obtain⟨z,hz,hs⟩:=qYi.1 h1;exact⟨i,z,hi,hz,hs,h2,h3⟩
theorem Xu(v:Value)(hv:v.cells.size=64)(w:World):(Instr.buildSlice 41 1 #[(0,v)]).run Tryz.prog w=.ok (.slice (some ⟨w.heap.size,0,none⟩) 1 1) (w.alloc (.cells v.cells 54)):=by
 obtain⟨i,z,hi,hz,hs,hsz,_⟩:=xj;refine run_buildSlice w _ _ 1 _ _ i z Tryz.underlying41 hi hz (by rw[hsz];decide) (by rw[hsz];decide) ?_;obtain⟨a1,a2⟩:=yO 0 v.cells ((Array.range (1*i.size)).map (z.cells[·%z.cells.size]!));rw[show(#[(0,v)]:Array (Nat×Value)).toList=[(0,v)]from rfl];rw[xk _ _ 0 0 64 v _ (by simp[hsz]) hv (by simp[hsz])];show some _=_
 congr 1
 apply qxd
 intro k;rw[a2 k];by_cases hk:k<64
 .rw [if_pos ⟨by omega,by omega,by simp[hsz];omega⟩];rfl
 .rw [if_neg (by omega),qxf (by simp[hsz];omega),qxf (by omega)]
theorem JS(seq no of m:Nat)(L:List Ent)(hL:L.length=m)(hm:m<=4)(P0:List Value)(h0:P0=[.int .i64 (seq:Int),.int .i64 (no:Int),.int .i64 (of:Int),.int .i64 (m:Int)]++(List.replicate 4 Ent.none).flatMap entC):
  P0.take 4++(L.flatMap entC++P0.drop (4+(L.flatMap entC).length))=pgC seq no of m (padE L):=by
 subst h0;rw[xR,hL];have h1:([Value.int .i64 (seq:Int),.int .i64 (no:Int),.int .i64 (of:Int),.int .i64 (m:Int)]++(List.replicate 4 Ent.none).flatMap entC).drop (4+m*4)=(List.replicate (4-m) Ent.none).flatMap entC:=by
  have:m=0\/m=1\/m=2\/m=3\/m=4:=by omega
  rcases this with rfl|rfl|rfl|rfl|rfl<;>rfl
 rw[h1,pgC,padE,hL,qyf];rfl
def pg0(seq k nd m:Nat):Array Value:= #[.int .i64 (seq:Int),.int .i64 (k:Int),.int .i64 (nd:Int),.int .i64 (m:Int),.int .i64 0,.int .i64 0,.bool false,.int .i64 0,.int .i64 0,.int .i64 0,.bool false,.int .i64 0,.int .i64 0,.int .i64 0,.bool false,.int .i64 0,.int .i64 0,.int .i64 0,.bool false,.int .i64 0]
theorem Sd{w:World}{b:Nat}{T:TypeId}(seq k nd m:Nat)(L:List Ent)(hL:L.length=m)(hm:m<=4)(h:w.heap[b]?=some (.cells ((pg0 seq k nd m).toList.take 4++(L.flatMap entC++(pg0 seq k nd m).toList.drop (4+(L.flatMap entC).length))).toArray T (0,0))):
  w.heap[b]?=some (.cells (pgC seq k nd m (padE L)).toArray T (0,0)):=by
 rw[h,JS seq k nd m L hL hm (pg0 seq k nd m).toList rfl]
theorem qm(seq k nd m:Nat):(pg0 seq k nd m).size=20:=rfl
theorem WE(seq no of m:Nat){L:List Ent}(h:L.length=4):(pgC seq no of m L).length=20:=by
 rw[pgC,qzd,xR,h];rfl
theorem Xv{w:World}{g o:Nat}{E:List Ent}(hr:w.rangeAt g o (E.flatMap entC))(k:Nat):w.rangeAt g (o+k*4*4) ((partE E k).flatMap entC):=by
 have hd:∀(E:List Ent) (n:Nat),(E.drop n).flatMap entC=(E.flatMap entC).drop (n*4):=by
  intro E
  induction E with
  |nil=>intro n;simp
  |cons x E ih=>
   intro n;cases n with
   |zero=>simp
   |succ n=>rw[List.drop_succ_cons,ih,qyg,show(n+1)*4=(entC x).length+n*4 by rw[tX];omega,List.drop_length_add_append]
 have ht:∀(E:List Ent) (n:Nat),(E.take n).flatMap entC=(E.flatMap entC).take (n*4):=by
  intro E
  induction E with
  |nil=>intro n;simp
  |cons x E ih=>
   intro n;cases n with
   |zero=>simp
   |succ n=>rw[List.take_succ_cons,qyg,ih,qyg,show(n+1)*4=(entC x).length+n*4 by rw[tX];omega,List.take_length_add_append]
 intro j v hv;rw[partE,ht,hd,qyu]at hv;split at hv
 .rw [qym]at hv;have:=hr _ v hv;rw[show o+k*4*4+j=o+(4*k*4+j) by omega];exact this
 .cases hv
def xr(w:World)(seq:Nat)(E:List Ent)(e:Ending)(w':World):Prop:=∃v,e=.returned (.tuple #[v,.int .i64 0])/\Sl w' 54 64 v (needN E.length) (yN (pagesB seq E))/\From w.heap.size v/\Below w.heap.size w w'
theorem VQ(w:World):Calls Tryz.prog 54 #[.int .i64 0] w fun e w'=>e=.returned (.int .i64 1)/\w=w':=ql 0 (by omega) w
theorem rh{P:Program}(w:World)(dT sT ty elem:TypeId)(k g o:Nat)(dl dc:Nat)(hu:P.underlying dT=some (.slice elem))(hs:(P.info? elem).map (·.size)=some k):
  (Builtin.copy_ #[dT,sT] ty #[.slice (some ⟨g,o,none⟩) dl dc,.slice none 0 0]).run P w=.ok (.int .i64 0) w:=by
 cases hq:P.info? elem with
 |none=>simp[hq]at hs
 |some i=>simp[Builtin.copy_,run_underlying hu,Builtin.lenOf,Builtin.firstCells,sizeOf,typeInfo,hq,storeCells,goInt]
theorem JT(seq:Nat):(pg0 seq 0 1 0)=(pgC seq 0 1 0 (padE (partE [] 0))).toArray:=rfl
theorem wu{ops:Array Oper}{rest:List Oper}{op:Oper}{a:Act}{w:World}{Q:Exit->Act->World->Prop}(hgd:op.guard=none)(p q r s:Operand)(ho:op.op=.build 280 #[(0,p),(1,q),(2,r),(3,s)])
  (x k nd m:Nat) (hp:a.eval p=.int .i64 (x:Int)) (hq:a.eval q=.int .i64 (k:Int)) (hr:a.eval r=.int .i64 (nd:Int)) (hs:a.eval s=.int .i64 (m:Int)) (PG:Array Value) (hPG:PG=pg0 x k nd m)
  (h:wpList Tryz.prog ops Q rest (a.put op.dst (.agg PG)) w):wpList Tryz.prog ops Q (op::rest) a w:=by
 have hrun:(Instr.build 280 #[(0,.int .i64 (x:Int)),(1,.int .i64 (k:Int)),(2,.int .i64 (nd:Int)),(3,.int .i64 (m:Int))]).run Tryz.prog w=.ok (.agg PG) w:=by
  rw[hPG];kernel_rfl
 refine qZh hgd fun K' hK'=>?_;unfold Oper.wp;simp only[execOp,ho,qzp,qzm,qzo,hp,hq,hr,hs,qYm,hrun,qYl];exact hK' _ _ h
theorem Yh(ts te:TypeId)(k:Nat)(hk:0<k)(hu:Tryz.prog.underlying ts=some (.slice te))(hinf:∃i z,Tryz.prog.info? te=some i/\i.zero=some z/\z.cells.size=k/\i.size=k)(v:Value)(hv:v.cells.size=k)(hb:k<=1000)(w:World):
  (Instr.buildSlice ts 1 #[(0,v)]).run Tryz.prog w=.ok (.slice (some ⟨w.heap.size,0,none⟩) 1 1) (w.alloc (.cells v.cells te)):=by
 obtain⟨i,z,hi,hz,hs,hsz⟩:=hinf;refine run_buildSlice w _ _ 1 _ _ i z hu hi hz (by rw[hsz];omega) (by rw[hsz];omega) ?_;obtain⟨a1,a2⟩:=yO 0 v.cells ((Array.range (1*i.size)).map (z.cells[·%z.cells.size]!));rw[show(#[(0,v)]:Array (Nat×Value)).toList=[(0,v)]from rfl];rw[xk _ _ 0 0 k v _ (by simp[hsz]) hv (by simp[hsz])];show some _=_
 congr 1
 apply qxd
 intro j;rw[a2 j];by_cases hj:j<k
 .rw [if_pos ⟨by omega,by omega,by simp[hsz];omega⟩];rfl
 .rw [if_neg (by omega),qxf (by simp[hsz];omega),qxf (by omega)]
theorem xz{ops:Array Oper}{rest:List Oper}{op:Oper}{a:Act}{w:World}{Q:Exit->Act->World->Prop}(hgd:op.guard=none)(ts te:TypeId)(p:Operand)(ho:op.op=.buildSlice ts 1 #[(0,p)])(k:Nat)(hk:0<k)
  (hu:Tryz.prog.underlying ts=some (.slice te)) (hinf:∃i z,Tryz.prog.info? te=some i/\i.zero=some z/\z.cells.size=k/\i.size=k) (hb:k<=1000) (cs:List Value) (hp:a.eval p=.agg cs.toArray) (hc:cs.length=k)
  (h:wpList Tryz.prog ops Q rest (a.put op.dst (.slice (some ⟨w.heap.size,0,none⟩) 1 1)) (w.alloc (.cells cs.toArray te))):wpList Tryz.prog ops Q (op::rest) a w:=by
 refine qZh hgd fun K' hK'=>?_;unfold Oper.wp;have hrun:=Yh ts te k hk hu hinf (.agg cs.toArray) (by simpa[Value.cells]using hc) hb w;simp only[execOp,ho,qzp,qzm,qzo,hp,qYm,hrun,qYl];exact hK' _ _ h
theorem uF(F:List Bk)(x:Bk):yN (F++[x])=yN F++bkC x:=by simp[yN]
theorem Xw{w:World}{g o n c:Nat}(E:List Ent)(hE:E.length=n)(h1:1<=n)(h2:n<=1024)(hr:w.rangeAt g o (E.flatMap entC))(hc:n<=c)(hm:c<=maxLen)(seq:Nat)(hs:seq<=1099511627776)(hok:∀x∈E,qk x)(hN:Nib w):
  Calls Tryz.prog 191 #[.int .i64 (seq:Int),.slice (some ⟨g,o,none⟩) n c] w (xr w seq E):=by
 obtain⟨i0,hi,hb0⟩:=qYi.1 TF;simp only[qYk]at hb0;obtain⟨hb1,hb2,hb3⟩:=hb0;obtain⟨z,hz,hzs⟩:=qYi.1 hb1;have hq:needN n<=256:=by unfold needN;omega
 obtain⟨Z,hZ,hmk⟩:∃Z:Array Value,Z.size=needN n*64/\∀w:World,(Instr.makeSlice 41 (.int .i64 0) (.int .i64 (needN n:Int))).run Tryz.prog w=.ok (.slice (some ⟨w.heap.size,0,none⟩) 0 (needN n)) (w.alloc (.cells Z 54)):=by
  refine⟨madeCells z.cells (needN n*64),by simp[size_madeCells],fun w=>?_⟩;have:=run_make (P:=Tryz.prog) w 41 54 i0 z Tryz.underlying41 hi hz .i64 .i64 0 (needN n) (by omega) (by omega) (by rw[hb3];omega) (by omega);rw[this];simp only[qxu,hb2];rfl
 have HK:=Y5 hi hz hzs hb2 hb3;have H:=Y6 hr hs hok hN hE hZ;have hgl:g<w.heap.size:=by
  have:=hr 0 (.int .i64 ((E[0]'(by omega)).b:Int)) (by
   have h0:0<E.length:=by omega
   obtain⟨x,l,rfl⟩:∃x l,E=x::l:=by cases E with|nil=>simp at h0|cons x l=>exact⟨x,l,rfl⟩
   rfl)
  exact(zL this).2
 have hq1:1<=needN n:=by unfold needN;omega
 have hqn:∀k,k<needN n->4*k<n:=fun k hk=>by unfold needN at hk;omega
 have hqm:needN n<=n:=by unfold needN;omega
 have HQ:=Y2 hqn hqm;unfold maxLen at hm;clear hr hs hok hN hE hi hz hzs hb1 hb2 hb3 hZ hqn;generalize hnd:needN n=nd at*;have HND:=qqh hnd;go_enter Tryz.func191,Tryz.ntmps191
 go_wp2_with (first
  |(go_at_call 54;refine(ql n (by omega) _).mono ?_;rintro e w' ⟨rfl,rfl⟩;rw[hnd];clear hnd)
  |fail)
 have hg0:=zc w (.cells Z 54) rfl;have hb0:Below w.heap.size w (w.alloc (.cells Z 54)):=(qxl _ w).alloc (qXv _) _;have hsl0:Sl (w.alloc (.cells Z 54)) 54 64 (.slice (some ⟨w.heap.size,0,none⟩) 0 nd) 0 (yN (zV seq E 0)):=
  ⟨by simp[zV,yN],.inr ⟨w.heap.size,0,nd,_,rfl,hg0,qYf _,by unfold maxLen;omega,by rw[H.o.2.2.2.2.2];omega,by simp[zV,yN]⟩⟩
 have hf0:From w.heap.size (.slice (some ⟨w.heap.size,0,none⟩) 0 nd):=fun g hg=>by simp[Value.ownBlock]at hg;omega
 generalize w.alloc (.cells Z 54)=w1 at*;have H1:=Y3 hsl0 hf0 hb0;clear hg0 hb0 hsl0 hf0 hmk;go_loopw[7,21] (fun s7 s21 wr=>∃k:Nat,k<=nd/\s21=.int .i64 k/\Sl wr 54 64 s7 k (yN (zV seq E k))/\From w.heap.size s7/\Below w.heap.size w wr) (fun _ s21 _=>nd-(intOf s21).toNat)
 case atStart=>exact⟨0,by omega,rfl,H1.o.1,H1.o.2.1,H1.o.2.2⟩
 case round=>
  obtain⟨k,hk,rfl,hsl,hf,hb⟩:=hrel;by_cases hlt:k<nd
  .have h4:=HQ.o.1 k hlt;have b1:(0:Int)<=(k:Int):=by omega
   have HS:=Y3 hsl hf hb;obtain⟨ao,cc,rfl⟩:=hsl.rd.nil_iff;obtain⟨m,hm1⟩:=qqe ((partE E k).length);have hmE:m=min 4 (n-4*k):=by rw[hm1,partE,qzk,qzf,H.o.2.2.2.2.1]
   have hm4:m<=4:=by omega
   have hmin:Nat.min m 4=m:=Nat.min_eq_left hm4;obtain⟨PG,hPG⟩:∃PG:List Value,PG.toArray=pg0 seq k nd m:=⟨(pg0 seq k nd m).toList,rfl⟩
   have hPGl:PG.length=20:=(congrArg Array.size hPG).trans (qm seq k nd m);have hPG1:∀v∈PG,v.oneCell'=true:=by
    intro v hv;have hv':v∈pg0 seq k nd m:=by rw[<-hPG];simpa using hv
    simp only[pg0,Array.mem_def,qzr,qXd,qZb]at hv';rcases hv' with rfl|rfl|rfl|rfl|rfl|rfl|rfl|rfl|rfl|rfl|rfl|rfl|rfl|rfl|rfl|rfl|rfl|rfl|rfl|rfl<;>rfl
   obtain⟨w0,hw0⟩:=qqe (wr.alloc (.cells PG.toArray 280));have hg0:w0.heap[wr.heap.size]?=some (.cells (pg0 seq k nd m) 280):=by rw[hw0,<-hPG];exact zc wr _ rfl
   have hu0:Upd (fun _=>False) wr w0:=by rw[hw0];exact(uur _ wr).alloc _
   have hb0:Below w.heap.size w w0:=hb.trans ((Upd.below hu0).mono hb.size);have hr0:=Xv (Below.range hb0 H.o.1) k;obtain⟨w3,hcp,hg3,hu3,hz3⟩:=ur (P:=Tryz.prog) w0 22 22 37 4 wr.heap.size 4 4 4 ⟨g,o+k*4*4,none⟩ m m _ _ ((partE E k).flatMap entC) Tryz.underlying22 sS hg0 (by rw[xR,<-hm1,hmin])
    (fun j v hj=>by rw[qxa];exact hr0 j v hj) (by rw[xR,<-hm1,qm];omega) (fun v hv=>by obtain⟨x,-,hx⟩:=qzu.1 hv;exact ZT x v hx)
   replace hg3:=Sd seq k nd m (partE E k) hm1.symm hm4 hg3;rw[hmin]at hcp;rw[hw0]at hcp;have hp4:=tG (tD E k);have hr3:=zg hg3;have hszP:(Tryz.prog.info? 280).map (·.size)=some (pgC seq k nd m (padE (partE E k))).length:=by rw[WE _ _ _ _ hp4];exact wB
   have hb3:Below w.heap.size w w3:=zj hb0 hu3 (qXv _) (fun j e=>by have:=hb.size;omega);have hput:=Yg (H.o.2.2.2.1.below hb3) (pgC seq k nd m (padE (partE E k))) (WE _ _ _ _ hp4) (pageXs seq nd E k) (yV _ _ _ _) (fun W=>by rw[pageXs,<-hm1];exact Jk seq k nd m _ hp4);have hmay:Hid (mayP (pageXs seq nd E k)=true):=by
    show _=_;have:=uE (seq:=seq) (E:=E) (k:=k) H.o.2.1 H.o.2.2.1 (by rw[H.o.2.2.2.2.1,HND.o];exact hq) (by rw[H.o.2.2.2.2.1,HND.o];exact hlt);rw[H.o.2.2.2.2.1,HND.o]at this;exact this
   have hsl3:=hsl.keep ((hu0.mono (fun _ _ h=>h.elim)).new hu3 (S':=fun j=>j=wr.heap.size) (fun i hi e=>e)) (fun j hj e=>by have:=hsl.lt hj;omega);have HPG:=Y3 hPG hPGl hPG1;have hsi0:Hid ((Tryz.prog.info? 280).map (·.size)=some PG.length):=by show _=_;rw[hPGl];exact wB
   have H3:=Y5 hput hsl3 hb3 hg3 hmE;clear hsl hf hb hput hsl3 hb3 hg3 hu3 hz3 hu0 hb0 hr0 hg0 hm1 hw0 hmE hPG hPGl hPG1;have hbr:((k:Int)*4+4<=(n:Int)/\k*4+4-k*4=m/\((k:Int)*4+4).toNat=k*4+4/\(k:Int)*4<=(k:Int)*4+4/\(k:Int)*4+4<=(c:Int))\/(¬(k:Int)*4+4<=(n:Int)/\n-k*4=m/\(k:Int)*4<=(n:Int)/\(n:Int)<=(c:Int)/\(n:Int)<(k:Int)*4+4):=by
    have:=H3.o.2.2.2.2;by_cases hc4:(k:Int)*4+4<=(n:Int)
    .exact .inl ⟨hc4,by omega,by omega,by omega,by omega⟩
    .exact .inr ⟨hc4,by omega,by omega,by omega,by omega⟩
   obtain⟨y,hy⟩:=qqe (sectP (pageXs seq nd E k));have hyl:(bkC y).length=64:=by rw[zo,hy];exact wQ (yV _ _ _ _)
   have hy64:Hid ((Tryz.prog.info? 54).map (·.size)=some (bkC y).length):=by show _=_;rw[hyl];exact zF
   have HY:=Y3 hy hyl (zv y);clear hy hyl;rcases hbr with⟨q1,q2,q3,q4,q5⟩|⟨q1,q2,q3,q4,q5⟩
   all_goals
    go_wp2_with (first
     |(refine wu rfl _ _ _ _ rfl seq k nd m (by rfl) (by rfl) (by rfl) (by rfl) PG.toArray HPG.o.1 ?_)
     |(refine zk rfl _ _ _ rfl _ _ _ rfl rfl (by rw[HPG.o.2.1];rfl) hsi0.out HPG.o.2.2 ?_)
     |(refine qZg rfl _ _ rfl _ _ rfl _ _ hr3 Tryz.underlying280 rfl hszP ?_)
     |fail)
    refine H3.o.1.mono ?_;rintro e w4 ⟨hr4,hb4⟩;obtain rfl:e=.returned (.tuple #[.agg (bkC y).toArray,.int .i64 0]):=by
     rcases hr4 with⟨-,h⟩|⟨h,-⟩
     .rw [h,HY.o.1]
     .rw [hmay.out]at h;cases h
    have hA:=zc w4 (.cells (bkC y).toArray 54) rfl;have rA:=zg hA;have hu4:=qqb hb4;have hua:Upd (fun _=>False) w4 (w4.alloc (.cells (bkC y).toArray 54)):=(uur _ _).alloc _;have hsl5:=qqh ((H3.o.2.1.keep hu4 (fun _ _ h=>h)).keep hua (fun _ _ h=>h));have H4:=Y2 hu4 hua;clear hr4 hb4 hu4 hua hA q1 q2 q3 q4 q5 hcp hr3;go_wp2_with (first
     |(refine zk rfl _ _ _ rfl _ _ _ rfl rfl (by rw[HY.o.2.1];rfl) hy64.out HY.o.2.2 ?_)
     |(refine qZg rfl _ _ rfl _ _ rfl _ _ rA Tryz.underlying54 rfl hy64.out ?_)
     |(refine xz rfl 41 54 _ rfl 64 (by decide) Tryz.underlying41 ⟨i0,z,HK.o.1,HK.o.2.1,HK.o.2.2.1,HK.o.2.2.2.1⟩ (by decide) (bkC y) rfl HY.o.2.1 ?_)
     |(at_builtin;refine zP rfl _ _ _ rfl i0 z 64 Tryz.underlying41 HK.o.1 HK.o.2.1 HK.o.2.2.2.1 HK.o.2.2.2.2 HK.o.2.2.1 (by decide) rfl hsl5.out (bkC y) (by rfl) HY.o.2.1 HY.o.2.2 (by unfold maxLen;omega) (by omega) ?_;intro v' w11 hs11 hu11 hbf)
     |fail)
    replace hu11:Upd (ownS (.slice ao k cc)) (w4.alloc (.cells (bkC y).toArray 54)) w11:=hu11;replace hbf:blockFrom (w4.alloc (.cells (bkC y).toArray 54)) (.slice ao k cc) v':=hbf;have HZ:=Y3 hs11 hu11 hbf;clear hs11 hu11 hbf rA;go_roundw
    case rel=>
     obtain⟨hs11,hu11,hbf⟩:=HZ.o;have hB4:Below w.heap.size w (w4.alloc (.cells (bkC y).toArray 54)):=zj H3.o.2.2.1 (H4.o.1.trans H4.o.2) (qXv _) (fun _ h=>h.elim);refine⟨k+1,by omega,by go_num,?_,hbf.ge hB4.size HS.o.2.1,zj hB4 hu11 (qXv _) HS.o.2.1.own⟩;rw[vX,H.o.2.2.2.2.1,HND.o,uF];rw[HY.o.1]at hs11;exact hs11
    case measure=>simp[intOf];omega
  .obtain rfl:k=nd:=by omega
   have HS:=Y3 hsl hf hb;obtain⟨ao,cc,rfl⟩:=hsl.rd.nil_iff;clear hsl hf hb;go_wp2
   go_ret2
   exact⟨_,rfl,by unfold pagesB;rw[H.o.2.2.2.2.1,HND.o];exact HS.o.1,HS.o.2.1,HS.o.2.2⟩
theorem rK{w:World}(seq:Nat)(hs:seq<=1099511627776)(hN:Nib w):
  Calls Tryz.prog 191 #[.int .i64 (seq:Int),.slice none 0 0] w (xr w seq []):=by
 obtain⟨i0,z,hi,hz,hzs,hsz,hby⟩:=xj;obtain⟨Z,hZ,hmk⟩:∃Z:Array Value,Z.size=64/\∀w:World,(Instr.makeSlice 41 (.int .i64 0) (.int .i64 1)).run Tryz.prog w=.ok (.slice (some ⟨w.heap.size,0,none⟩) 0 1) (w.alloc (.cells Z 54)):=by
  refine⟨madeCells z.cells (1*64),by simp[size_madeCells],fun w=>?_⟩;have:=run_make (P:=Tryz.prog) w 41 54 i0 z Tryz.underlying41 hi hz .i64 .i64 0 1 (by omega) (by omega) (by rw[hby];omega) (by omega);rw[this];simp only[hsz];rfl
 have HK:=Y5 hi hz hzs hsz hby;have H:=Y3 hs hN hZ;have hcp:=fun(w:World) (g:Nat) (ty:TypeId)=>rh (P:=Tryz.prog) w 22 22 ty 37 4 g 4 4 4 Tryz.underlying22 sS;clear hi hz hzs hsz hby hs hN hZ;go_enter Tryz.func191,Tryz.ntmps191
 go_wp2_with (first
  |(go_at_call 54;refine(VQ _).mono ?_;rintro e w' ⟨rfl,rfl⟩)
  |fail)
 have hg0:=zc w (.cells Z 54) rfl;have hb0:Below w.heap.size w (w.alloc (.cells Z 54)):=(qxl _ w).alloc (qXv _) _;have hsl0:Sl (w.alloc (.cells Z 54)) 54 64 (.slice (some ⟨w.heap.size,0,none⟩) 0 1) 0 (yN (zV seq [] 0)):=
  ⟨by simp[zV,yN],.inr ⟨w.heap.size,0,1,_,rfl,hg0,qYf _,by unfold maxLen;omega,by rw[H.o.2.2];omega,by simp[zV,yN]⟩⟩
 have hf0:From w.heap.size (.slice (some ⟨w.heap.size,0,none⟩) 0 1):=fun g hg=>by simp[Value.ownBlock]at hg;omega
 generalize w.alloc (.cells Z 54)=w1 at*;have H1:=Y3 hsl0 hf0 hb0;clear hg0 hb0 hsl0 hf0 hmk;go_loopw[7,21] (fun s7 s21 wr=>∃k:Nat,k<=1/\s21=.int .i64 k/\Sl wr 54 64 s7 k (yN (zV seq [] k))/\From w.heap.size s7/\Below w.heap.size w wr) (fun _ s21 _=>1-(intOf s21).toNat)
 case atStart=>exact⟨0,by omega,rfl,H1.o.1,H1.o.2.1,H1.o.2.2⟩
 case round=>
  obtain⟨k,hk,rfl,hsl,hf,hb⟩:=hrel;by_cases hlt:k<1
  .obtain rfl:k=0:=by omega
   have HS:=Y3 hsl hf hb;obtain⟨ao,cc,rfl⟩:=hsl.rd.nil_iff;obtain⟨PG,hPG⟩:∃PG:List Value,PG.toArray=pg0 seq 0 1 0:=⟨(pg0 seq 0 1 0).toList,rfl⟩
   have hPGl:PG.length=20:=(congrArg Array.size hPG).trans (qm seq 0 1 0);have hPG1:∀v∈PG,v.oneCell'=true:=by
    intro v hv;have hv':v∈pg0 seq 0 1 0:=by rw[<-hPG];simpa using hv
    simp only[pg0,Array.mem_def,qzr,qXd,qZb]at hv';rcases hv' with rfl|rfl|rfl|rfl|rfl|rfl|rfl|rfl|rfl|rfl|rfl|rfl|rfl|rfl|rfl|rfl|rfl|rfl|rfl|rfl<;>rfl
   have hu0:Upd (fun _=>False) wr (wr.alloc (.cells PG.toArray 280)):=(uur _ wr).alloc _;have hr3:=zg (zc wr (.cells PG.toArray 280) rfl);have hb3:Below w.heap.size w (wr.alloc (.cells PG.toArray 280)):=hb.trans ((Upd.below hu0).mono hb.size);have hPGe:PG=pgC seq 0 1 0 (padE (partE [] 0)):=by have:=congrArg Array.toList (hPG.trans (JT seq));simpa using this
   have hp4:(padE (partE [] 0)).length=4:=rfl;have hput:=Yg (H.o.2.1.below hb3) PG hPGl (pageXs seq 1 [] 0) (yV _ _ _ _) (fun W=>by rw[hPGe];exact Jk seq 0 1 0 _ hp4);have hmay:Hid (mayP (pageXs seq 1 [] 0)=true):=uE (seq:=seq) (E:=[]) (k:=0) H.o.1 (by simp) (by decide) (by decide);have hsl3:=hsl.keep hu0 (fun _ _ h=>h);have HPG:=Y3 hPG hPGl hPG1;have hsi0:Hid ((Tryz.prog.info? 280).map (·.size)=some PG.length):=by show _=_;rw[hPGl];exact wB
   have H3:=Y3 hput hsl3 hb3;obtain⟨y,hy⟩:=qqe (sectP (pageXs seq 1 [] 0));have hyl:(bkC y).length=64:=by rw[zo,hy];exact wQ (yV _ _ _ _)
   have hy64:Hid ((Tryz.prog.info? 54).map (·.size)=some (bkC y).length):=by show _=_;rw[hyl];exact zF
   have HY:=Y3 hy hyl (zv y);clear hsl hf hb hput hsl3 hb3 hu0 hPG hPGl hPG1 hPGe hp4 hy hyl;simp only[Int.natCast_zero]at*;go_wp2_with (first
    |(refine wu rfl _ _ _ _ rfl seq 0 1 0 (by rfl) (by rfl) (by rfl) (by rfl) PG.toArray HPG.o.1 ?_)
    |(refine zk rfl _ _ _ rfl _ _ _ rfl rfl (by rw[HPG.o.2.1];rfl) hsi0.out HPG.o.2.2 ?_)
    |(refine qZg rfl _ _ rfl _ _ rfl _ _ hr3 Tryz.underlying280 rfl hsi0.out ?_)
    |fail)
   refine H3.o.1.mono ?_;rintro e w4 ⟨hr4,hb4⟩;obtain rfl:e=.returned (.tuple #[.agg (bkC y).toArray,.int .i64 0]):=by
    rcases hr4 with⟨-,h⟩|⟨h,-⟩
    .rw [h,HY.o.1]
    .rw [hmay.out]at h;cases h
   have hA:=zc w4 (.cells (bkC y).toArray 54) rfl;have rA:=zg hA;have hu4:Upd (fun _=>False) (wr.alloc (.cells PG.toArray 280)) w4:=uuo hb4;have hua:Upd (fun _=>False) w4 (w4.alloc (.cells (bkC y).toArray 54)):=(uur _ _).alloc _;have hsl5:=qqh ((H3.o.2.1.keep hu4 (fun _ _ h=>h)).keep hua (fun _ _ h=>h));have H4:=Y2 hu4 hua;clear hr4 hb4 hu4 hua hA hcp hr3;go_wp2_with (first
    |(refine zk rfl _ _ _ rfl _ _ _ rfl rfl (by rw[HY.o.2.1];rfl) hy64.out HY.o.2.2 ?_)
    |(refine qZg rfl _ _ rfl _ _ rfl _ _ rA Tryz.underlying54 rfl hy64.out ?_)
    |(refine xz rfl 41 54 _ rfl 64 (by decide) Tryz.underlying41 ⟨i0,z,HK.o.1,HK.o.2.1,HK.o.2.2.1,HK.o.2.2.2.1⟩ (by decide) (bkC y) rfl HY.o.2.1 ?_)
    |(at_builtin;refine zP rfl _ _ _ rfl i0 z 64 Tryz.underlying41 HK.o.1 HK.o.2.1 HK.o.2.2.2.1 HK.o.2.2.2.2 HK.o.2.2.1 (by decide) rfl hsl5.out (bkC y) (by rfl) HY.o.2.1 HY.o.2.2 (by unfold maxLen;omega) (by omega) ?_;intro v' w11 hs11 hu11 hbf)
    |fail)
   replace hu11:Upd (ownS (.slice ao 0 cc)) (w4.alloc (.cells (bkC y).toArray 54)) w11:=hu11;replace hbf:blockFrom (w4.alloc (.cells (bkC y).toArray 54)) (.slice ao 0 cc) v':=hbf;have HZ:=Y3 hs11 hu11 hbf;clear hs11 hu11 hbf rA;go_roundw
   case rel=>
    obtain⟨hs11,hu11,hbf⟩:=HZ.o;have hB4:Below w.heap.size w (w4.alloc (.cells (bkC y).toArray 54)):=zj H3.o.2.2 (H4.o.1.trans H4.o.2) (qXv _) (fun _ h=>h.elim);refine⟨1,by omega,by go_num,?_,hbf.ge hB4.size HS.o.2.1,zj hB4 hu11 (qXv _) HS.o.2.1.own⟩;rw[vX,uF];rw[HY.o.1]at hs11;exact hs11
   case measure=>simp[intOf]
  .obtain rfl:k=1:=by omega
   have HS:=Y3 hsl hf hb;obtain⟨ao,cc,rfl⟩:=hsl.rd.nil_iff;clear hsl hf hb;go_wp2
   go_ret2
   exact⟨_,rfl,HS.o.1,HS.o.2.1,HS.o.2.2⟩
open Go Go.RowKit Go.Shelf
attribute [local go_sem] qYh
theorem Dv.exact{S:Nat->Prop}{w:World}{b:Nat}{F:List Bk}{O:List (Nat×Bk)}{P:List Int}(h:Dv S w b F O P):∃S0:Nat->Prop,Dv S0 w b F O P/\(∀j,S0 j->S j)/\∀j,S0 j->∃cs t z,w.heap[j]?=some (.cells cs t z):=by
 obtain⟨vf,vo,vp,h,hs⟩:=h;exact⟨Ao b vf vo vp,⟨vf,vo,vp,h,fun _ hj=>hj⟩,hs,fun j hj=>by obtain⟨cs,t,hc⟩:=h.cells j hj;exact⟨cs,t,_,hc⟩⟩
theorem TG(base i:Nat)(B:List Bk):ckO base (i+1) B=ckO base i B++[ZA base B i]:=by simp[ckO,List.range_succ]
theorem Se(base i:Nat)(B:List Bk):(ckO base i B).length=i:=by simp[ckO]
end Go.Proofs.YtfhfbpmlnjdfoaaGreatDoor
namespace Go.Proofs.YtfhfbpmlnjdfoaaGreatDoor
open Go Go.RowKit
end Go.Proofs.YtfhfbpmlnjdfoaaGreatDoor
