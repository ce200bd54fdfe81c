/- Things in memo -/
import Derived.Test.YtpejdgiccaijfaaGreatDoorG01
import Derived.Laws.StructEq
set_option maxRecDepth 100000
namespace Go.Proofs.YtpejdgiccaijfaaGreatDoor
open Go Go.RowKit Tryz
variable{w:World}
structure Thing(R:(Nat->Prop)->World->Prop):Prop where
 keep:∀{S T:Nat->Prop} {w w':World},R S w->Upd T w w'->(∀j,S j->¬T j)->R S w'
 out:∀{S S':Nat->Prop} {w:World},R S w->(∀j,j<w.heap.size->S j->S' j)->R S' w
def grow(own:Nat->Nat)(t n n':Nat):Nat->Nat:=fun j=>if n<=j/\j<n' then t else own j
theorem zw{own:Nat->Nat}{t n a j:Nat}(h:j<n):grow own t n a j=own j:=if_neg oM
theorem XB{own:Nat->Nat}{t n a j:Nat}(b:n<=j)(h:j<a):grow own t n a j=t:=if_pos ⟨b,h⟩
structure Did(own own':Nat->Nat)(w w':World):Prop where
 upd:Upd (fun j=>own j≠0/\own j<16) w w'
 old:∀j,j<w.heap.size->own' j=own j
 new:∀j,w.heap.size<=j->own' j<16
 far:∀j,w'.heap.size<=j->own' j=0
section
variable{own own' own2:Nat->Nat}{w w' w2:World}{R:(Nat->Prop)->World->Prop}{t k:Nat}
theorem Did.refl(b:∀a,w.heap.size<=a->own a=0):Did own own w w:=⟨uur _ _,fun _ _=>rfl,fun a h=>by rw[b a h];decide,b⟩
theorem Did.trans(h:Did own own' w w')(g:Did own' own2 w' w2):Did own own2 w w2 where
 upd:=h.upd.new g.upd (fun a b j=>by rw[<-h.old a b];exact j)
 old:=fun a b=>(g.old a (qXs b h.upd.size)).trans (h.old a b)
 new:=fun a b=>by
  by_cases n:a<w'.heap.size
  .rw [g.old a n];exact h.new a b
  .exact g.new a oM
 far:=g.far
theorem Did.drew(h:Did own own' w w'):Did own own' w w'.drew:=⟨h.upd.drew,h.old,h.new,h.far⟩
theorem Did.setCell(h:Did own own' w w')(p:Addr)(a:p.block<w.heap.size->own p.block≠0/\own p.block<16)(u:Value):Did own own' w (w'.setCell p u):=
 ⟨h.upd.setCell p a u,h.old,h.new,fun b hj=>h.far b oC⟩
theorem Did.step(n:∀a,w.heap.size<=a->own a=0)(q:t≠0)(p:t<16)(hu:Upd (fun a=>own a=t\/w.heap.size<=a) w w'):Did own (grow own t w.heap.size w'.heap.size) w w' where
 upd:=hu.mono (fun a b j=>by rcases j with j|j;exact j▸⟨q,p⟩;omega)
 old:=fun a b=>zw b
 new:=fun a b=>by
  unfold grow;split
  .exact p
  .rw [n a b];decide
 far:=fun a b=>by
  have:=hu.size;unfold grow;rw[if_neg oM];exact n a oM
theorem Thing.other(j:Thing R)(p:R (fun a=>own a=k) w)(q:k≠t)(hu:Upd (fun a=>own a=t\/w.heap.size<=a) w w'):R (fun a=>grow own t w.heap.size w'.heap.size a=k) w':=by
 have h1:R (fun a=>own a=k/\a<w.heap.size) w:=j.out p (fun a n b=>⟨b,n⟩);have h2:=j.keep h1 hu (fun a b h=>by rcases h with h|h;exact q (b.1.symm.trans h);omega);exact j.out h2 (fun a n b=>by rw[zw b.2];exact b.1)
theorem Thing.mine(j:Thing R)(_hu:w.heap.size<=w'.heap.size)(h:R (fun a=>own a=t\/w.heap.size<=a) w'):R (fun a=>grow own t w.heap.size w'.heap.size a=t) w':=
 j.out h (fun a n p=>by
  by_cases b:w.heap.size<=a
  .exact XB b n
  .rw [zw oM];exact p.resolve_right b)
theorem Thing.open(b:Thing R)(h:R (fun a=>own a=t) w):R (fun a=>own a=t\/w.heap.size<=a) w:=b.out h (fun _ _ j=> .inl j)
theorem Thing.new(b:Thing R){S:Nat->Prop}(a:R S w)(hu:Upd (fun _=>False) w w'):R S w':=b.keep a hu (fun _ _ a=>a)
end
theorem Qt(p:Value)(w:World):
  CallsD prog 372 #[p] .returning w fun e a w'=>e=.returned (.tuple #[])/\a=.returning/\w'=w:=by
 refine callsD_of_wpS func372 rfl fun b cs j=>?_;apply wpS_seq;apply wpS_region;simp[wpOpsS,go_sem,recoverD,j,ntmps372,Exit.thenS];refine wpS_cond (t:=false) ow ?_;simp only[Bool.false_eq_true,if_false];refine wpS_of_wp (wp_skip ?_);cases b
 simp_all[bodyPostS,results,results372]
theorem Zg(p:Value)(w:World):
  CallsD prog 470 #[p] .returning w fun e a w'=>e=.returned (.tuple #[])/\a=.returning/\w'=w:=by
 refine callsD_of_wpS func470 rfl fun b cs j=>?_;apply wpS_seq;apply wpS_region;simp[wpOpsS,go_sem,recoverD,j,ntmps470,Exit.thenS];refine wpS_cond (t:=false) ow ?_;simp only[Bool.false_eq_true,if_false];refine wpS_of_wp (wp_skip ?_);cases b
 simp_all[bodyPostS,results,results470]
theorem Vo(p:Value)(w:World):
  CallsD prog 445 #[p] .returning w fun e a w'=>e=.returned (.tuple #[])/\a=.returning/\w'=w:=by
 refine callsD_of_wpS func445 rfl fun b cs j=>?_;apply wpS_seq;apply wpS_region;simp[wpOpsS,go_sem,recoverD,j,ntmps445,Exit.thenS];refine wpS_cond (t:=false) ow ?_;simp only[Bool.false_eq_true,if_false];refine wpS_of_wp (wp_skip ?_);cases b
 simp_all[bodyPostS,results,results445]
theorem xt{v:Value}{l:List Int}(h:Rd w 1 v l.length (ints l))(a:l.length<=4096)(k:Int):
  Calls prog 287 #[v,.int .i64 k] w fun e w'=>e=.returned (.int .i64 (idxI l k))/\Below w.heap.size w w':=by
 have n:=qqf;have b:=qqh (fun(w1:World) (h1:Rd w1 1 v l.length (ints l))=>Vj h1 a k);have j:=qqh h;clear h
 go_enter_defers func287,ntmps287
 go_wp2_with fail
 refine(b.o _ (j.o.keep ((uur (fun _=>False) w).alloc _) (fun _ _ h=>h))).mono ?_;rintro e w1 ⟨rfl,rfl⟩;go_wp2
 refine leaves_cons (f:=372) (args:= #[.pointer (some ⟨w.heap.size,0,none⟩)]) oe jZ ?_;refine(Qt _ _).mono ?_;rintro e p q ⟨rfl,rfl,rfl⟩;simp[Leaves,settle,results,results287,go_sem];exact(qxl _ _).alloc (qXp _) _
theorem uk:∀(xs a:List Int),xs.length=a.length->((List.range xs.length).all fun i=>xs.getD i 0==a.getD i 0)=(xs==a)
 |[],[],_=>rfl
 |x::xs,y::a,b=>by
  have h:=uk xs a (by simpa using b);rw[qza,List.range_succ_eq_map,List.all_cons,List.all_map];simp only[List.getD_cons_zero,Function.comp_def,List.getD_cons_succ,h];simp[List.cons_beq_cons]
 |[],_::_,b=>by simp at b
 |_::_,[],b=>by simp at b
section
variable{P:Program}(w:World)
theorem tR(d:Nat)(t e:TypeId)(n:Nat)(q:P.underlying t=some (.array n e))(b:P.underlying e=some (.int .i64))(s:∀w,(sizeOf e).run P w=.ok 1 w)
  (xs a:List Int) (hx:xs.length=n) (hy:a.length=n):
  (Op.equalIn (d+2) t (.agg (ints xs).toArray) (.agg (ints a).toArray)).run P w=.ok (xs==a) w:=by
 rw[<-uk xs a (hx.trans hy.symm),hx,List.range_eq_range',Op.equalIn];simp only[qYg,qYw q,qYf,s,Std.Legacy.Range.forIn_eq_forIn_range',Std.Legacy.Range.size,Nat.sub_zero,Nat.add_sub_cancel,Nat.div_one];have j:∀i∈List.range' 0 n 1,i<n:=fun i p=>by simpa using(List.mem_range'_1.1 p).2
 generalize List.range' 0 n 1=l at j⊢
 induction l with
 |nil=>simp
 |cons i l v=>
  have p:i<n:=j i oe;have A:(part e (ints xs).toArray (i*1)).run P w=.ok (.int .i64 (xs.getD i 0)) w:=by
   simp[ints,part,isAgg,run_underlying b,List.getD,List.getElem?_eq_getElem (show i<xs.length by omega)]
  have D:(part e (ints a).toArray (i*1)).run P w=.ok (.int .i64 (a.getD i 0)) w:=by
   simp[ints,part,isAgg,run_underlying b,List.getD,List.getElem?_eq_getElem (show i<a.length by omega)]
  have E:(Op.equalIn (d+1) e (.int .i64 (xs.getD i 0)) (.int .i64 (a.getD i 0))).run P w=.ok (xs.getD i 0==a.getD i 0) w:=by
   rw[run_equalIn_int w d e .i64 .i64 _ _ b]
  simp only[List.forIn_cons,qYg,A,D,E,qYf,List.all_cons];cases H:(xs.getD i 0==a.getD i 0)
  .simp
  .simp only[Bool.not_true,Bool.false_eq_true,if_false,Sem.run_pure,qYf,qxp];exact v fun F G=>j F (by simp[G])
theorem Yj(t e:TypeId)(n:Nat)(b:P.underlying t=some (.array n e))(h:P.underlying e=some (.int .i64))(j:∀w,(sizeOf e).run P w=.ok 1 w)
  (xs a:List Int) (hx:xs.length=n) (hy:a.length=n):
  (binOp .eql t (.agg (ints xs).toArray) (.agg (ints a).toArray)).run P w=.ok (.bool (xs==a)) w:=by
 rw[run_eql_struct,tR w 9998 t e n b h j xs a hx hy];rfl
end
theorem XC(b a:TypeId)(k:Nat)(s:0<k)(hu:prog.underlying b=some (.slice a))(n:∃i z,prog.info? a=some i/\i.zero=some z/\z.cells.size=k/\i.size=k)(v:Value)(hv:v.cells.size=k)(A:k<=1000)(w:World):
  (Instr.buildSlice b 1 #[(0,v)]).run prog w=.ok (.slice (some ⟨w.heap.size,0,none⟩) 1 1) (w.alloc (.cells v.cells a)):=by
 obtain⟨i,z,p,q,D,hsz⟩:=n;refine run_buildSlice w _ _ 1 _ _ i z hu p q (by rw[hsz];omega) (by rw[hsz];omega) ?_;obtain⟨a1,a2⟩:=yR 0 v.cells ((Array.range (1*i.size)).map (z.cells[·%z.cells.size]!));rw[show(#[(0,v)]:Array (Nat×Value)).toList=[(0,v)]from rfl];rw[xF _ _ 0 0 k v _ jN hv jN];show some _=_
 congr 1
 apply qxd
 intro j;rw[a2 j];by_cases E:j<k
 .rw [if_pos ⟨oM,oM,by simp[hsz];omega⟩];rfl
 .rw [if_neg oM,qxf kh,qxf oM]
theorem yB{j:Array Oper}{rest:List Oper}{op:Oper}{a:Act}{Q:Exit->Act->World->Prop}(n:op.guard=none)(h b:TypeId)(p:Operand)(q:op.op=.buildSlice h 1 #[(0,p)])(k:Nat)(s:0<k)
  (hu:prog.underlying h=some (.slice b)) (v:∃i z,prog.info? b=some i/\i.zero=some z/\z.cells.size=k/\i.size=k) (A:k<=1000) (cs:List Value) (D:a.eval p=.agg cs.toArray) (E:cs.length=k)
  (F:wpList prog j Q rest (a.put op.dst (.slice (some ⟨w.heap.size,0,none⟩) 1 1)) (w.alloc (.cells cs.toArray b))):wpList prog j Q (op::rest) a w:=by
 refine qZa n fun J G=>?_;unfold Oper.wp;have H:=XC h b k s hu v (.agg cs.toArray) (by simpa[Value.cells]using E) A w;simp only[execOp,q,qzl,qzi,qzk,D,qYg,H,qYf];exact G _ _ F
theorem zU{b:Array Oper}{rest:List Oper}{o:Oper}{a:Act}{Q:Exit->Act->World->Prop}(h:o.guard=none)(t:TypeId)(j:o.op=.alloc t)(cs:Array Value)
  (n:∀w:World,(Instr.alloc t true (.tuple #[])).run prog w=.ok (.pointer (some ⟨w.heap.size,0,none⟩)) (w.alloc (.cells cs t)))
  (p:wpList prog b Q rest (a.put o.dst (.pointer (some ⟨w.heap.size,0,none⟩))) (w.alloc (.cells cs t))):wpList prog b Q (o::rest) a w:=by
 refine qZa h fun s q=>?_;unfold Oper.wp;simp only[execOp,j,qYg,n,qYf];exact q _ _ p
theorem Sh(w:World):(sizeOf 5).run prog w=.ok 1 w:=by
 obtain⟨i,a,b⟩:=qYc.1 (show(prog.info? 5).map (·.size)=some 1 by kernel_rfl);simp[sizeOf,typeInfo,a,b]
theorem Vp(x y:Bk)(hx:x.length=64)(hy:y.length=64)(w:World):(binOp .eql 60 (.agg (bkC x).toArray) (.agg (bkC y).toArray)).run prog w=.ok (.bool (x==y)) w:=
 run_eql_bytes w 60 5 64 underlying60 underlying5 Sh x y hx hy
theorem rG(x y:Bk)(hx:x.length=64)(hy:y.length=64)(w:World):(binOp .neq 60 (.agg (bkC x).toArray) (.agg (bkC y).toArray)).run prog w=.ok (.bool (!(x==y))) w:=by
 have e:(Op.equalIn 10000 60 (.agg (bkC x).toArray) (.agg (bkC y).toArray)).run prog w=.ok (x==y) w:=run_equalIn_bytes w 9998 60 5 64 underlying60 underlying5 Sh x y hx hy;rw[run_neq_struct,e];rfl
theorem tS{P:Program}{j:Array Oper}{rest:List Oper}{op:Oper}{a:Act}{Q:Exit->Act->World->Prop}(n:Region.wanted op (yielded j a.tmps)=true)(h:TypeId)(x:Operand)(p:op.op=.load h x)
  (b o:Nat) (hx:a.eval x=.pointer (some ⟨b,o,none⟩)) (cs:List Value) (d:TypeDesc) (q:w.rangeAt b o cs)
  (hu:P.underlying h=some d) (s:d.isRow=true) (v:(P.info? h).map (·.size)=some cs.length)
  (A:wpList P j Q rest (a.put op.dst (.agg cs.toArray)) w):wpList P j Q (op::rest) a w:=
 wpList_step fun K D=>by rw[if_pos n];exact wp_load_mid h x p b o hx cs d q hu s v (D _ _ A)
def Stop(G:Prop):Prop:=G
theorem Stop.i{G:Prop}(h:Stop G):G:=h
end Go.Proofs.YtpejdgiccaijfaaGreatDoor
