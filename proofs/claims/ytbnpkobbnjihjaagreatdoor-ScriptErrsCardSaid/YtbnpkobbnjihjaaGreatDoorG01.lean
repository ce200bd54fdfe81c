/- Words on world -/
import Derived.Test.YtbnpkobbnjihjaaGreatDoorG00
import Derived.WalkKit
import Derived.ProofKit
import Derived.OpenShut
import Derived.Handy
import Derived.Deep.QuietTactic
import Derived.BigQuiet
import Derived.StillTailTactics
import Derived.Lib.Hide
import Derived.Deep.LoopGhost
import Derived.Deep.DeepCutAuto
import Derived.Deep.RegionHeld3
import Derived.Deep.MidRow
import Derived.Deep.RegionWith
import Derived.WalkSpells
import Derived.WalkMore
import Derived.Test.YtbnpkobbnjihjaaGreatDoorProg
import Derived.Deep.Slices
import Derived.Lib.SmallJoins
import Derived.Deep.Strs
import Derived.Stop.BytesEq
import Derived.Laws.ResultCell
import Derived.Great.BuildSlice
import Derived.Deep.DrawnRows
import Derived.Laws.Bits64b
import Derived.Laws.StructEq
set_option maxRecDepth 100000
set_option maxHeartbeats 1000000
namespace Go.Proofs.YtbnpkobbnjihjaaGreatDoor
open Go Go.RowKit Tryz
variable{w w' a w1:World}{S S':Nat->Prop}{b g k n B off s cap j o':Nat}{v u v':Value}{P:List Int}{e T ty:TypeId}{xs cs:List Value}
structure Upd(S:Nat->Prop)(w w':World):Prop where
 os:w'.os=w.os
 tape:w'.tape=w.tape
 output:w'.output=w.output
 size:w.heap.size<=w'.heap.size
 block:∀k,k<w.heap.size->¬S k->w'.heap[k]?=w.heap[k]?
namespace Upd
theorem refl(S:Nat->Prop)(w:World):Upd S w w:=⟨rfl,rfl,rfl,qXp _,fun _ _ _=>rfl⟩
theorem trans{b c:World}(h:Upd S a b)(k:Upd S b c):Upd S a c:=
 ⟨k.os.trans h.os,k.tape.trans h.tape,k.output.trans h.output,qXr h.size k.size,
  fun i p q=>(k.block i (qXs p h.size) q).trans (h.block i p q)⟩
theorem mono{b:World}(h:Upd S a b)(q:∀k,k<a.heap.size->S k->S' k):Upd S' a b:=
 ⟨h.os,h.tape,h.output,h.size,fun i p A=>h.block i p fun D=>A (q i p D)⟩
theorem drew(h:Upd S a w):Upd S a w.drew:=⟨h.os,h.tape,h.output,h.size,h.block⟩
theorem drewN(h:Upd S a w)(n:Nat):Upd S a (w.drewN n):=⟨h.os,h.tape,h.output,h.size,h.block⟩
theorem alloc(h:Upd S a w)(o:Obj):Upd S a (w.alloc o):=
 h.trans ⟨rfl,rfl,rfl,oe,fun k p _=>qxk _ _ _ p⟩
theorem setCell(h:Upd S a w)(p:Addr)(D:p.block<a.heap.size->S p.block)(u:Value):Upd S a (w.setCell p u):=
 ⟨h.os,h.tape,h.output,by simpa using h.size,fun k q A=>by
  rw[Below.heap_setCell]
  .exact h.block k q A
  .rintro rfl;exact A (D q)⟩
theorem below(h:Upd (fun _=>False) a w):Below a.heap.size a w:=
 ⟨h.os,h.tape,h.output,h.size,fun k p=>h.block k p id⟩
theorem of_below(h:Below a.heap.size a w):Upd S a w:=
 ⟨h.os,h.tape,h.output,h.size,fun k p _=>h.block k p⟩
theorem new(h:Upd S' a w)(k:Upd S w w')(A:∀i,i<a.heap.size->S i->S' i):Upd S' a w':=
 ⟨k.os.trans h.os,k.tape.trans h.tape,k.output.trans h.output,qXr h.size k.size,
  fun i p q=>(k.block i (qXs p h.size) fun D=>q (A i p D)).trans (h.block i p q)⟩
theorem cell(h:Upd S w w'){p:Addr}(q:p.block<w.heap.size)(A:¬S p.block):w'.cell? p=w.cell? p:=
 World.cell?_of_block (w:=w) (h.block p.block q A)
theorem frozen(h:Upd S w w'){p:Addr}(q:p.block<w.heap.size)(A:¬S p.block):w'.frozen? p=w.frozen? p:=
 World.frozen?_of_block (w:=w) (h.block p.block q A)
theorem cellAt(h:Upd S w w'){o:Nat}(q:b<w.heap.size)(A:¬S b):w'.cell? ⟨b,o,none⟩=w.cell? ⟨b,o,none⟩:=h.cell (p:=⟨b,o,none⟩) q A
theorem frozenAt(h:Upd S w w'){o:Nat}(q:b<w.heap.size)(A:¬S b):w'.frozen? ⟨b,o,none⟩=w.frozen? ⟨b,o,none⟩:=h.frozen (p:=⟨b,o,none⟩) q A
theorem lt(h:Upd S w w')(p:k<w.heap.size):k<w'.heap.size:=qXs p h.size
end Upd
theorem zd{o:Obj}(h:w.heap[b]?=some o):b<w.heap.size:=(Array.getElem?_eq_some_iff.1 h).1
theorem za{cs:Array Value}{fz:Nat×Nat}(h:w.heap[b]?=some (.cells cs T fz))(i:Nat):w.cell? ⟨b,i,none⟩=cs[i]?:=by
 simp[World.cell?,h]
theorem zg{cs:Array Value}(h:w.heap[b]?=some (.cells cs T (0,0)))(i:Nat):w.frozen? ⟨b,i,none⟩=false:=by
 simp[World.frozen?,h]
theorem zh{cs:Array Value}{fz:Nat×Nat}(h:w.heap[b]?=some (.cells cs T fz))(i:Nat)(u:Value):
  (w.setCell ⟨b,i,none⟩ u).heap[b]?=some (.cells (cs.setIfInBounds i u) T fz):=by
 simp[World.setCell,Array.getElem?_modify,h]
theorem zc(w:World)(o:Obj)(h:n=w.heap.size):(w.alloc o).heap[n]?=some o:=by
 subst h;show(w.heap.push o)[w.heap.size]?=_;simp
def Wl(_:List Nat)(G:Prop):Prop:=G
namespace Wl
theorem i{G:Prop}(l:List Nat)(h:Wl l G):G:=h
theorem o{G:Prop}(h:G):Wl [] G:=h
section
variable{P:Program}{md:Region.Mode}{ops:Array Oper}{Q:Exit->Act->World->Prop}{S:World->Prop}{k:Nat}{oi:Oper}{v:Value}{fuel:Nat}{listed:Array Bool}{a a':Act}{w:World}{ks:List Nat}
theorem t(p:S w)(h:Wl ks (wpAnyH P md ops Q S fuel (listed.setIfInBounds k true) a' w))(q:ops[k]?=some oi:=by rfl)(A:Region.noSelect ops=true:=by kernel_rfl)(D:Region.free md ops listed k=true:=by kernel_rfl)
  (E:(Region.ready md ops listed).contains k=true:=by kernel_rfl) (G:∀c a w,Q (.panic c) (a.put oi.dst v) w->Q (.panic c) a w:=by exact fun _ _ _ h=>h)
  (hy:YieldsIf P ops S oi v a:=by first|(refine Or.inr ⟨?_,rfl⟩;rfl)|(refine Or.inl ⟨?_,?_⟩;rfl;intro L J;(try dsimp only at J);(try go_split_ands);go_simp;(try with_reducible rfl)))
  (K:a.put oi.dst v=a':=by simp only[qyx,qyr,qys,Act.put,qXd,qXg,qXf];rfl):Wl (k::ks) (wpAnyH P md ops Q S (fuel+1) listed a w):=
 qYz q A D E G hy p (K▸h)
theorem l(k:Nat){x:Operand}{o:Nat}{d:TypeDesc}(p:∀w,S w->w.rangeAt b o cs)(q:P.underlying ty=some d)(A:(P.info? ty).map (·.size)=some cs.length)(D:S w)
  (h:wpAnyH P md ops Q S fuel (listed.setIfInBounds k true) a' w) (E:ops[k]?=some oi:=by rfl) (G:Region.noSelect ops=true:=by kernel_rfl) (J:Region.free md ops listed k=true:=by kernel_rfl)
  (K:(Region.ready md ops listed).contains k=true:=by kernel_rfl) (L:∀c a w,Q (.panic c) (a.put oi.dst (.agg cs.toArray)) w->Q (.panic c) a w:=by exact fun _ _ _ h=>h)
  (M:Region.wanted oi (yielded ops a.tmps)=true:=by rfl) (N:oi.op=.load ty x:=by rfl) (hx:a.eval x=.pointer (some ⟨b,o,none⟩):=by rfl) (R:d.isRow=true:=by rfl)
  (U:a.put oi.dst (.agg cs.toArray)=a':=by simp only[qyx,qyr,qys,Act.put,qXd,qXg,qXf];rfl):wpAnyH P md ops Q S (fuel+1) listed a w:=
 qYz E G J K L (qZf M ty x N b o hx cs d p q R A) D (U▸h)
theorem r(k:Nat)(h:∀p:Act->World->Prop,Shut (∀a w,S w->(S w->wpAnyH P md ops Q S fuel (listed.setIfInBounds k true) a w)->p a w)->if Region.wanted oi (yielded ops a.tmps)=true then Oper.wp P oi a w p Q else p (a.put oi.dst undef) w)
  (q:ops[k]?=some oi:=by rfl) (A:Region.ready md ops listed=[k]:=by kernel_rfl):wpAnyH P md ops Q S (fuel+1) listed a w:=
 qYy A oe (qxb q h qxc)
theorem d(h:Q .normal a w)(p:Region.ready md ops listed=[]:=by kernel_rfl):wpAnyH P md ops Q S fuel listed a w:=wpAnyH_done p h _
end
end Wl
def Sl(w:World)(e:TypeId)(k:Nat)(v:Value)(n:Nat)(xs:List Value):Prop:=
 xs.length=n*k/\((v=.slice none 0 0/\n=0)\/
  ∃g off cap cur,v=.slice (some ⟨g,off,none⟩) n cap/\w.heap[g]?=some (.cells cur e (0,0))/\n<=cap/\cap<=maxLen/\off+cap*k<=cur.size/\
   ∀j u,xs[j]?=some u->cur[off+j]?=some u)
def Rd(w:World)(k:Nat)(v:Value)(n:Nat)(xs:List Value):Prop:=
 xs.length=n*k/\n<=maxLen/\∃ao cap,v=.slice ao n cap/\(ao=none->n=0)/\∀b,ao=some b->∀j u,xs[j]?=some u->w.cell? (b.add j)=some u
section
variable{w w':World}{e:TypeId}{k n:Nat}{v:Value}{xs:List Value}
theorem Sl.nil(w:World)(e:TypeId)(k:Nat):Sl w e k (.slice none 0 0) 0 []:=⟨oe,.inl ⟨rfl,rfl⟩⟩
theorem Sl.rd(h:Sl w e k v n xs):Rd w k v n xs:=by
 obtain⟨q,⟨rfl,rfl⟩|⟨g,off,cap,K,rfl,A,D,E,L,G⟩⟩:=h
 .exact ⟨q,qXz _,none,0,rfl,fun _=>rfl,fun b p=>by cases p⟩
 .refine ⟨q,qXr D E,some ⟨g,off,none⟩,cap,rfl,(fun h=>by cases h),(fun b p=>?_)⟩;cases p;intro j u J;rw[qxa,za A];exact G j u J
theorem Rd.le(h:Rd w k v n xs):n<=maxLen:=h.2.1
theorem Sl.le(h:Sl w e k v n xs):n<=maxLen:=h.rd.le
theorem Sl.lt(p:Sl w e k v n xs)(h:v.ownBlock=some g):g<w.heap.size:=by
 obtain⟨_,⟨rfl,rfl⟩|⟨A,off,cap,D,rfl,q,_⟩⟩:=p
 .simp [Value.ownBlock]at h
 .simp [Value.ownBlock]at h;subst h;exact zd q
theorem Sl.keep(h:Sl w e k v n xs)(q:Upd S w w')(A:∀g,v.ownBlock=some g->¬S g):Sl w' e k v n xs:=by
 refine⟨h.1,?_⟩;rcases h.2 with D|⟨g,off,cap,E,rfl,p,rest⟩
 .exact .inl D
 .exact .inr ⟨g,off,cap,E,rfl,(q.block g (zd p) (A g rfl)).trans p,rest⟩
theorem Sl.same(h:Sl w e k v n xs)(p:∀g,v.ownBlock=some g->w'.heap[g]?=w.heap[g]?):Sl w' e k v n xs:=by
 refine⟨h.1,?_⟩;rcases h.2 with q|⟨g,off,cap,A,rfl,D,rest⟩
 .exact .inl q
 .exact .inr ⟨g,off,cap,A,rfl,(p g rfl).trans D,rest⟩
theorem zH{a:Addr}(h:w.cell? a=some u):a.spot=none/\a.block<w.heap.size:=by
 refine⟨?_,qYh w a h⟩;unfold World.cell? at h;split at h
 .split at h
  .cases h
  .rename_i p;simpa using p
 .cases h
theorem Rd.keep(p:Rd w k v n xs)(q:Upd S w w')(A:∀g,v.ownBlock=some g->¬S g):Rd w' k v n xs:=by
 obtain⟨D,E,G,cap,rfl,J,K⟩:=p;refine⟨D,E,G,cap,rfl,J,fun b h j u L=>?_⟩;have h1:=K b h j u L;have M:(b.add j).block=b.block:=by unfold Addr.add;split<;>rfl
 subst h;rw[q.cell (zH h1).2 (by rw[M];exact A b.block rfl)];exact h1
theorem Rd.jW(p:Rd w k v n xs):∃h cap,v=.slice h n cap:=by obtain⟨_,_,h,cap,rfl,_⟩:=p;exact⟨h,cap,rfl⟩
theorem Rd.at(D:Rd w k v n xs)(E:0<n)(G:0<k:=by decide):∃h off cap,v=.slice (some ⟨h,off,none⟩) n cap/\h<w.heap.size/\∀j u,xs[j]?=some u->w.cell? ⟨h,off+j,none⟩=some u:=by
 obtain⟨J,U,K,cap,rfl,L,p⟩:=D;cases K with
 |none=>have:=L rfl;omega
 |some b=>
  have p:=p b rfl;have hx:0<xs.length:=by rw[J];exact Nat.mul_pos E G
  obtain⟨q,A⟩:=zH (p 0 _ (qyj hx));obtain⟨h,off,M⟩:=b;have N:M=none:=by unfold Addr.add at q;split at q<;>simp_all
  subst N;rw[qxa]at A;exact⟨h,off,cap,rfl,A,fun j u R=>by have:=p j u R;rwa[qxa]at this⟩
theorem Sl.at(p:Sl w e k v n xs)(E:0<n):∃g off cap h,v=.slice (some ⟨g,off,none⟩) n cap/\w.heap[g]?=some (.cells h e (0,0))/\off+n*k<=h.size/\∀j u,xs[j]?=some u->h[off+j]?=some u:=by
 obtain⟨G,⟨rfl,rfl⟩|⟨g,off,cap,h,rfl,q,A,J,K,D⟩⟩:=p
 .omega
 .exact ⟨g,off,cap,h,rfl,q,by have:=qXv k A;omega,D⟩
theorem zC:∀(q:List Value) (o:Nat) (w:World) (b:Nat) (p:Array Value) (T:TypeId) (fz:Nat×Nat),w.heap[b]?=some (.cells p T fz)->
  ∃A,(w.setCells b o q).heap[b]?=some (.cells A T fz)/\A.size=p.size/\∀i,A[i]?=if o<=i/\i<o+q.length/\i<p.size then q[i-o]? else p[i]?:=by
 intro q
 induction q with
 |nil=>intro o w b p T fz h;exact⟨p,h,rfl,fun i=>by rw[if_neg og]⟩
 |cons v q J=>
  intro o w b p T fz h;have h1:=zh h o v;obtain⟨A,h2,K,L⟩:=J (o+1) (w.setCell ⟨b,o,none⟩ v) b _ T fz h1;refine⟨A,h2,by simpa using K,fun i=>?_⟩;rw[L];by_cases G:o=i
  .subst G;rw[if_neg oM];by_cases E:o<p.size
   .rw [if_pos ⟨oM,oe,E⟩];simp[E]
   .rw [if_neg oM];simp[E]
  .by_cases D:o+1<=i/\i<o+1+q.length/\i<p.size
   .rw [if_pos (by simpa using D),if_pos ⟨oM,by simp;omega,D.2.2⟩];have:i-o=(i-(o+1))+1:=oM;rw[this,List.getElem?_cons_succ]
   .rw [if_neg (by simpa using D),if_neg (by simp at D⊢;omega)];rw[qxg G]
theorem yo(S:Nat->Prop)(w:World)(b o:Nat)(h:List Value)(q:S b):Upd S w (w.setCells b o h):=by
 have:∀(h:List Value) (o:Nat) (a w:World),Upd S a w->Upd S a (w.setCells b o h):=by
  intro h
  induction h with
  |nil=>intro o a w p;exact p
  |cons v h A=>intro o a w p;exact A _ _ _ (p.setCell ⟨b,o,none⟩ (fun _=>q) v)
 exact this h o w w (Upd.refl _ _)
theorem Upd.kj{p:Option Nat}(h:w.grownBy w' p)(A:∀g,p=some g->g<w.heap.size->S g):Upd S w w':=
 ⟨h.os,h.tape,h.output,h.size,fun j q D=>h.block j q (fun e=>D (A j e.symm q))⟩
theorem Sl.of_own{base:Nat}(h:w.ownsRow base e k v n xs):Sl w e k v n xs:=by
 refine⟨h.1,?_⟩;rcases h.2 with q|⟨g,cap,A,rfl,K,D,E,G,L,J⟩
 .exact .inl q
 .refine .inr ⟨g,0,cap,A,rfl,D,E,G,oM,fun j u p=>?_⟩;rw[<-J,qyp]at p;split at p
  .simpa using p
  .cases p
def ownS(v:Value):Nat->Prop:=fun g=>v.ownBlock=some g
def From(B:Nat)(v:Value):Prop:=∀g,v.ownBlock=some g->B<=g
theorem From.nil(B n c:Nat):From B (.slice none n c):=fun g h=>by cases h
theorem From.mono{h:Nat}(p:From B v)(q:h<=B):From h v:=fun g A=>qXr q (p g A)
theorem From.own(h:From B v):∀k,ownS v k->B<=k:=h
def blockFrom(w:World)(v v':Value):Prop:=v'.ownBlock=v.ownBlock\/∃g,v'.ownBlock=some g/\w.heap.size<=g
theorem zF{P:Program}{ops:Array Oper}{rest:List Oper}{o:Oper}{a:Act}{Q:Exit->Act->World->Prop}(G:o.guard=none)(s x:Operand)(t:TypeId)
  (J:o.op=.call {callee:=.builtin .append,args:= #[s,x],argTypes:= #[t,t]})
  (i:TypeInfo) (z:Value) (K:Nat) (A:P.underlying t=some (.slice e)) (D:P.info? e=some i) (ad:i.zero=some z)
  (ae:i.size=k) (af:i.bytes=K) (ag:z.cells.size=k) (ah:0<k)
  (L:a.eval s=v) (M:Sl w e k v n xs)
  (x':Value) (m:Nat) (news:List Value) (hx:a.eval x=x') (ao:Rd w k x' m news) (h1:∀u∈news,u.oneCell'=true)
  (ai:n+m<=maxLen) (aj:(n+m)*K<=140737488355328)
  (h:∀v' w',Sl w' e k v' (n+m) (xs++news)->Upd (ownS v) w w'->blockFrom w v v'->wpList P ops Q rest (a.put o.dst v') w'):wpList P ops Q (o::rest) a w:=by
 obtain⟨hnl,aE,ap,N,rfl,aq,ar⟩:=ao;cases ap with
 |none=>
  have V:=aq rfl;subst V;obtain rfl:news=[]:=qyb jP;have W:(Builtin.append_ #[t,t] o.type #[v,.slice none 0 N]).run P w=.ok v w:=by
   obtain⟨_,⟨rfl,rfl⟩|⟨g,off,cap,X,rfl,p,ak,am,au,Y⟩⟩:=M
   .simp [Builtin.append_,run_underlying A,sizeOf,typeInfo,D,Builtin.lenOf,Builtin.firstCells]
   .simp [Builtin.append_,run_underlying A,sizeOf,typeInfo,D,Builtin.lenOf,Builtin.firstCells,ak,storeCells]
  refine qZb G fun av Z=>?_;unfold Oper.wp;simp[execOp,J,resolve,invoke,builtin,L,hx,W,Result.andThen];exact Z _ _ (h v w (by simpa using M) (Upd.refl _ _) (.inl rfl))
 |some R=>
 have an:=ar R rfl;have aw:=M;obtain⟨a6,⟨rfl,rfl⟩|⟨g,off,cap,X,rfl,p,ak,am,au,Y⟩⟩:=M
 .obtain rfl:xs=[]:=qyb (by simpa using a6);by_cases V:m=0
  .subst V;obtain rfl:news=[]:=qyb jP;have W:(Builtin.append_ #[t,t] o.type #[.slice none 0 0,.slice (some R) 0 N]).run P w=.ok (.slice none 0 0) w:=by
    simp[Builtin.append_,run_underlying A,sizeOf,typeInfo,D,Builtin.lenOf,Builtin.firstCells,loadCells,loadCellsFrom]
   refine qZb G fun av Z=>?_;unfold Oper.wp;simp[execOp,J,resolve,invoke,builtin,L,hx,W,Result.andThen];exact Z _ _ (h _ w (by simpa using aw) (Upd.refl _ _) (.inl rfl))
  .refine wpList_append_grows w G s x t J e i z k K A D ad ae af ag ah none 0 0 [] L (fun _=>⟨rfl,rfl⟩) oe (fun b ax=>by cases ax) R m N news hx hnl an h1 oM ai aj ?_;intro v' w' E a7;refine h v' w' (Sl.of_own E) (Upd.kj a7 (fun g p _=>by cases p)) ?_;rcases E.2 with⟨rfl,ay⟩|⟨a8,az,aa,rfl,ab,_⟩
   .omega
   .exact .inr ⟨a8,rfl,ab⟩
 .refine wpList_append_arg w G s x t J e i z k K A D ad ae af ag ah g off n cap xs L a6 (fun j u q=>by rw[za p];exact Y j u q) R m N news hx hnl an h1 ?_ ai aj ?_ ?_
  .intro U j q;have aA:off+n*k+j<X.size:=by
    have:=qXv k U;rw[Nat.add_mul]at this;omega
   exact⟨by rw[za p];simp[aA],zg p _⟩
  .intro U;obtain⟨aa,h2,aF,aB⟩:=zC news (off+n*k) w g X e (0,0) p;have aC:=qXv k U;rw[Nat.add_mul]at aC;refine h _ _ ⟨by rw[qyy,a6,hnl,Nat.add_mul],.inr ⟨g,off,cap,aa,rfl,h2,U,am,oM,fun j u q=>?_⟩⟩ (yo _ w g _ news rfl) (.inl rfl);rw[aB];by_cases aD:j<xs.length
   .rw [qyg aD]at q;rw[if_neg oM];exact Y j u q
   .rw [qyh oM]at q;have hlt:=(qyl.1 q).1;rw[if_pos ⟨oM,oM,oM⟩];have:off+j-(off+n*k)=j-xs.length:=oM;rw[this];exact q
  .intro aG v' w' E a7;refine h v' w' (Sl.of_own E) (Upd.kj a7 (fun g p _=>by cases p)) ?_;rcases E.2 with⟨rfl,ay⟩|⟨a8,az,aa,rfl,ab,_⟩
   .omega
   .exact .inr ⟨a8,rfl,ab⟩
theorem Rd.fresh(w:World)(news:List Value)(e:TypeId){m:Nat}(c:Nat)(h:news.length=m*k)(p:m<=maxLen):Rd (w.alloc (.cells news.toArray e)) k (.slice (some ⟨w.heap.size,0,none⟩) m c) m news:=by
 refine⟨h,p,some ⟨w.heap.size,0,none⟩,c,rfl,(fun q=>by cases q),(fun b A=>?_)⟩;cases A;intro j u D;rw[qxa,za (zc _ _ rfl)];simpa using D
theorem blockFrom.ge(h:blockFrom w v v')(A:B<=w.heap.size)(q:From B v):From B v':=by
 intro g p;rcases h with h|⟨D,h,E⟩
 .exact q g (by rw[<-h];exact p)
 .rw [h]at p;cases p;omega
theorem zK{P:Program}{ops:Array Oper}{rest:List Oper}{o:Oper}{a:Act}{Q:Exit->Act->World->Prop}(A:o.guard=none)(s x:Operand)(t:TypeId)
  (D:o.op=.call {callee:=.builtin .append,args:= #[s,x],argTypes:= #[t,t]})
  (i:TypeInfo) (z:Value) (q:Nat) (E:P.underlying t=some (.slice e)) (G:P.info? e=some i) (J:i.zero=some z)
  (K:i.size=k) (L:i.bytes=q) (M:z.cells.size=k) (N:0<k)
  (R:a.eval s=v) (U:Sl w e k v n xs) (news:List Value) (hx:a.eval x=.slice (some ⟨w.heap.size,0,none⟩) 1 1) (Z:news.length=k) (h1:∀u∈news,u.oneCell'=true)
  (V:n+1<=maxLen) (W:(n+1)*q<=140737488355328)
  (h:∀v' w',Sl w' e k v' (n+1) (xs++news)->Upd (ownS v) w w'->blockFrom w v v'->wpList P ops Q rest (a.put o.dst v') w'):
  wpList P ops Q (o::rest) a (w.alloc (.cells news.toArray e)):=by
 refine zF A s x t D i z q E G J K L M N R (U.keep ((Upd.refl (fun _=>False) w).alloc _) (fun _ _ h=>h)) _ 1 news hx (Rd.fresh w news e 1 oM oh) h1 V W ?_;intro v' w' h2 X p;refine h v' w' h2 (Upd.new ((Upd.refl _ _).alloc _) X (fun i _ h=>h)) ?_;rcases p with p|⟨g,p,Y⟩
 .exact .inl p
 .exact .inr ⟨g,p,by simp at Y;omega⟩
theorem Rd.below(h:Rd w k v n xs)(p:Below w.heap.size w w'):Rd w' k v n xs:=h.keep (Upd.of_below (S:=fun _=>False) p) (fun _ _ h=>h)
theorem zj(h:Below B a w)(p:Upd S w w')(E:B<=a.heap.size)(q:∀k,S k->B<=k):Below B a w':=
 ⟨p.os.trans h.os,p.tape.trans h.tape,p.output.trans h.output,qXr h.size p.size,fun k A=>(p.block k (by have:=h.size;omega) (fun D=>by have:=q k D;omega)).trans (h.block k A)⟩
theorem zN(h:Below B a w)(n:Nat):Below B a (w.drewN n):=⟨h.os,h.tape,h.output,h.size,h.block⟩
def Dis(v u:Value):Prop:=∀g,v.ownBlock=some g->u.ownBlock=some g->False
theorem Dis.symm(h:Dis v u):Dis u v:=fun g h1 h2=>h g h2 h1
theorem Dis.nil(n c:Nat)(u:Value):Dis (.slice none n c) u:=fun g h=>by cases h
theorem Dis.from(p:Dis v u)(h:blockFrom w v v')(q:∀g,u.ownBlock=some g->g<w.heap.size):Dis v' u:=by
 intro g h1 h2;rcases h with h|⟨A,h,D⟩
 .exact p g (by rw[<-h];exact h1) h2
 .rw [h]at h1;cases h1;have:=q g h2;omega
theorem Sl.kB(h:Sl w e k v n xs)(p:Dis v u)(q:Upd (ownS u) w w'):Sl w' e k v n xs:=
 h.keep q (fun g A D=>p g A D)
theorem Sl.tail{x:Value}(h:Sl w e 1 (.slice (some ⟨g,off,none⟩) (n+1) cap) (n+1) (x::xs)):
  Sl w e 1 (.slice (some ⟨g,off+1,none⟩) n (cap-1)) n xs/\(cap=1->Sl w e 1 (.slice (some ⟨g,off,none⟩) n 0) n xs)/\1<=cap:=by
 obtain⟨A,⟨h1,_⟩|⟨E,G,J,p,h1,q,K,L,M,D⟩⟩:=h
 .cases h1
 .cases h1;simp at A;refine⟨⟨oM,.inr ⟨g,off+1,cap-1,p,rfl,q,oM,oM,oM,fun j u hj=>?_⟩⟩,fun N=>⟨oM,.inr ⟨g,off,0,p,rfl,q,oM,oM,oM,fun j u hj=>?_⟩⟩,oM⟩
  .have:=D (j+1) u oz;rw[<-this];congr 1;omega
  .have:=(qyl.1 hj).1;omega
theorem Sl.kA(h:Sl w e k v n xs)(p:Upd (fun j=>j=b) w w')(q:v.ownBlock≠some b):Sl w' e k v n xs:=
 h.keep p (fun g A D=>q (by rw[A,D]))
theorem zi(w:World)(b i:Nat)(u:Value):Upd (fun j=>j=b) w (w.setCell ⟨b,i,none⟩ u):=Upd.setCell (S:=fun j=>j=b) (Upd.refl _ w) ⟨b,i,none⟩ (fun _=>rfl) u
end
def ints(l:List Int):List Value:=l.map (.int .i64)
@[simp]theorem zeM:ints []=[]:=rfl
@[simp]theorem zeE (x:Int)(l:List Int):ints (x::l)=.int .i64 x::ints l:=rfl
@[simp]theorem tR (l m:List Int):ints (l++m)=ints l++ints m:=by simp[ints]
@[simp]theorem xl (l:List Int):(ints l).length=l.length:=by simp[ints]
theorem yp{l:List Int}(h:j<l.length):(ints l)[j]?=some (.int .i64 l[j]):=by simp[ints,h]
section
open Go.ChangeShapes Go.WideShapes Go.ChangeAt
section
variable{H:Type}{enc:TypeId×Value->H}{P:Program}
theorem sw(G:laidOutB P=true){W D:World}(J:Below W.heap.size W D):∀(p:List TypeId) (q:List Value) (A:List (DataW H)) (ps:List MemPlace),
  (∀t∈p,P.readableRec t=true/\t<P.types.size)->DataW.TrodAll enc P W 0 (fun _=>true) true p q A ps->(∀x∈ps,x.block<W.heap.size)->
  DataW.TrodAll enc P D 0 (fun b=>decide (b<W.heap.size)) true p q A ps:=by
 intro p
 induction p with
 |nil=>
  intro q A ps _ h _;cases q<;>cases A<;>simp[DataW.TrodAll]at h⊢
  exact h
 |cons t p K=>
  intro q A ps E h hlt;cases q<;>cases A<;>simp only[DataW.TrodAll]at h⊢
  obtain⟨L,M,h1,h2,rfl⟩:=h;obtain⟨N,R⟩:=E t oe;exact⟨L,M,Below.trod G N R h1 J (fun x hx=>hlt x (by simp[hx])),K _ _ _ (fun U V=>E U (by simp[V])) h2 (fun x hx=>hlt x (by simp[hx])),rfl⟩
theorem RJ{f:Func}{s:ChangeSpec}{W A:World}{args:Array Value}{h gs:List (DataW H)}{D:List MemPlace}
  (K:laidOutB P=true) (L:f.params.toList.all (fun t=>P.readableRec t&&decide (t<P.types.size))=true)
  (M:f.resultTypes= #[T]) (N:P.underlying T=some .bool) (E:s.vars=[])
  (p:s.fn H (h++gs)={results:=[.lit (.bool true)],args:=h})
  (q:DataW.Whole enc P f.params.toList s.vars false W args.toList h gs D) (G:Below W.heap.size W A):
  s.post enc P f false true false false W args (.bool true) A:=by
 have hlt:∀x∈D,x.block<W.heap.size:=fun x hx=>by simpa using q.lt x hx
 have R:=q;obtain⟨J,U,V,X,rfl,a6,a7⟩:=q;rw[E]at X;refine⟨h,gs,J++U,[],J,[],R,?_,?_,?_,G.frame _,fun Y=>by cases Y⟩
 .rw [M,p];exact trodAll_cons_mk (shut_bool N true) trodAll_mk0
 .rw [p];exact sw K G _ _ _ _ (fun t Z=>by have:=qxu.1 L t Z;simpa using this) V (fun x hx=>hlt x (by simp[hx]))
 .rw [E,p];rfl
theorem Us{q:Type}{f:q->List Value}(p:∀a,(f a).length=k):∀(l:List q) (i j:Nat),j<k->∀a,l[i]?=some a->(l.flatMap f)[i*k+j]?=(f a)[j]?:=by
 intro l
 induction l with
 |nil=>intro i j _ a h;simp at h
 |cons b l D=>
  intro i j A a h;cases i with
  |zero=>simp at h;subst h;rw[qye,qYa,qXy,qyg (by rw[p];exact A)]
  |succ i=>
   simp at h;have e:(i+1)*k+j-(f b).length=i*k+j:=by rw[p,Nat.add_mul];omega
   rw[qye,qyh (by rw[p,Nat.add_mul];omega),e];exact D i j A a h
theorem xJ{h:Type}{f:h->List Value}(p:∀a,(f a).length=k)(l:List h):(l.flatMap f).length=l.length*k:=by
 induction l with
 |nil=>simp
 |cons b l q=>rw[qye,qyy,q,p,qyz,Nat.add_mul];omega
end
end
def Stop(G:Prop):Prop:=G
theorem Stop.i{G:Prop}(h:Stop G):G:=h
abbrev Bk:=List UInt8
def bkC(x:Bk):List Value:=x.map Go.Extern.Stop.cell
def bkV(x:Bk):Value:=.agg (bkC x).toArray
def rowC(F:List Bk):List Value:=F.flatMap bkC
theorem zn(x:Bk):(bkC x).length=x.length:=by simp[bkC]
theorem zu(x:Bk):∀v∈bkC x,v.oneCell'=true:=by intro v h;simp only[bkC,qzq]at h;obtain⟨b,_,rfl⟩:=h;rfl
def All64(F:List Bk):Prop:=∀x∈F,x.length=64
theorem uv{F:List Bk}(h:All64 F):(rowC F).length=F.length*64:=by
 induction F with
 |nil=>rfl
 |cons x F p=>
  have h1:=h x oe;have h2:=p (fun y hy=>h y (by simp[hy]));simp only[rowC,qye,qyy,zn]at h2⊢;rw[h1,qyz];omega
theorem vA{F:List Bk}(h:All64 F){i:Nat}(hi:i<F.length)(p:j<64):(rowC F)[i*64+j]?=(bkC F[i])[j]?:=by
 induction F generalizing i with
 |nil=>simp at hi
 |cons x F q=>
  have h1:=h x oe;cases i with
  |zero=>
   simp only[rowC,qye,qYa,qXy,qys];rw[qyg (by rw[zn,h1];exact p)]
  |succ i=>
   simp only[rowC,qye,qyr];rw[qyh (by rw[zn,h1];omega),zn,h1];have:=q (fun y hy=>h y (by simp[hy])) (i:=i) oB;rw[<-this]
   congr 1
   omega
theorem All64.set{F:List Bk}(h:All64 F)(i:Nat){x:Bk}(hx:x.length=64):All64 (F.set i x):=by
 intro y hy;rcases List.mem_or_eq_of_mem_set hy with h1|rfl
 .exact h y h1
 .exact hx
theorem sL{h:Array Value}{F:List Bk}(p:All64 F)(E:w.heap[g]?=some (.cells h e (0,0)))(G:∀j u,(rowC F)[j]?=some u->h[off+j]?=some u){i:Nat}(q:i<F.length):
  w.rangeAt g (off+i*64) (bkC F[i]):=by
 intro j v A;have D:=(qyl.1 A).1;rw[zn,p _ (qyu q)]at D;rw[za E,qXl];exact G _ _ (by rw[vA p q D];exact A)
theorem TC{p:Array Value}(q:w.heap[g]?=some (.cells p e (0,0))){i:Nat}(A:i<n)(D:off+n*64<=p.size):w.there g (off+i*64) 64:=by
 intro j E;rw[za q,zg q];exact⟨by rw[qxe oM];rfl,rfl⟩
theorem Sl.row_set{F:List Bk}(q:All64 F)(h:Sl w e 64 (.slice (some ⟨g,off,none⟩) F.length cap) F.length (rowC F)){i:Nat}(_:i<F.length){x:Bk}(hx:x.length=64):
  Sl (w.setCells g (off+i*64) (bkC x)) e 64 (.slice (some ⟨g,off,none⟩) (F.set i x).length cap) (F.set i x).length (rowC (F.set i x)):=by
 obtain⟨X,⟨h1,_⟩|⟨Y,Z,a6,J,h1,K,L,M,a7,N⟩⟩:=h
 .cases h1
 cases h1;obtain⟨R,U,a8,V⟩:=zC (bkC x) (off+i*64) w g J e (0,0) K;refine⟨uv (q.set i hx),.inr ⟨g,off,cap,R,rfl,U,by simpa using L,M,oM,fun j u p=>?_⟩⟩;have W:=(qyl.1 p).1;rw[uv (q.set i hx),qze]at W;have A:j=j/64*64+j%64:=oM;have D:j%64<64:=qXu _ oM;have E:j/64<F.length:=oM;rw[A,vA (q.set i hx) (by rw[qze];exact E) D,qyw]at p;rw[V,zn,hx];by_cases G:i=j/64
 .rw [if_pos G]at p;rw[if_pos ⟨oM,oM,oM⟩,show off+j-(off+i*64)=j%64 by omega];exact p
 .rw [if_neg G]at p;rw[if_neg oM];refine N j u ?_;rw[A,vA q E D];exact p
theorem zo(w:World)(g o:Nat)(h:List Value):Upd (fun j=>j=g) w (w.setCells g o h):=yo _ w g o h rfl
theorem TD(w:World)(cs:Array Value)(t:TypeId)(i:Nat)(v:Value):(w.alloc (.cells cs t)).setCell ⟨w.heap.size,i,none⟩ v=w.alloc (.cells (cs.setIfInBounds i v) t):=by
 simp only[World.setCell,World.alloc,World.mk.injEq,and_true];apply qxd
 intro k;rw[Array.getElem?_modify];by_cases p:w.heap.size=k
 .subst p;simp
 .rw [if_neg p];by_cases q:k<w.heap.size
  .rw [Array.getElem?_push_lt q,Array.getElem?_push_lt q]
  .rw [qxf og,qxf og]
theorem wW(w:World)(t:TypeId):∀(p:List Value) (cs:Array Value) (o:Nat),∃q:Array Value,(w.alloc (.cells cs t)).setCells w.heap.size o p=w.alloc (.cells q t)/\q.size=cs.size/\∀k,q[k]?=if o<=k/\k<o+p.length/\k<cs.size then p[k-o]? else cs[k]?
 |[],cs,o=>⟨cs,rfl,rfl,fun k=>by rw[if_neg og]⟩
 |v::p,cs,o=>by
  obtain⟨q,h1,h2,G⟩:=wW w t p (cs.setIfInBounds o v) (o+1);refine⟨q,?_,by simpa using h2,fun k=>?_⟩
  .rw [World.setCells,TD];exact h1
  .rw [G k];by_cases E:o=k
   .subst E;rw[if_neg oM];by_cases D:o<cs.size
    .rw [if_pos ⟨oM,oe,D⟩];simp[D]
    .rw [if_neg oM];simp[D]
   .by_cases A:o+1<=k/\k<o+1+p.length/\k<cs.size
    .rw [if_pos (by simpa using A),if_pos ⟨oM,by simp;omega,A.2.2⟩];have:k-o=(k-(o+1))+1:=oM;rw[this,List.getElem?_cons_succ]
    .rw [if_neg (by simpa using A),if_neg (by simp at A⊢;omega),qxg E]
theorem tS(w:World)(t:TypeId)(p:List Value)(cs:Array Value)(h:cs.size=p.length):(w.alloc (.cells cs t)).setCells w.heap.size 0 p=w.alloc (.cells p.toArray t):=by
 obtain⟨q,h1,h2,A⟩:=wW w t p cs 0;rw[h1];have:q=p.toArray:=by
  apply qxd
  intro k;have e:p.toArray[k]?=p[k]?:=oe;rw[A k,e];by_cases D:k<p.length
  .rw [if_pos ⟨oM,oM,oM⟩];rfl
  .rw [if_neg oM,qxf oM,qyk oM]
 rw[this]
theorem zk{P:Program}{ops:Array Oper}{rest:List Oper}{op:Oper}{a:Act}{Q:Exit->Act->World->Prop}(q:op.guard=none)(ty:TypeId)(x y:Operand)(A:op.op=.store ty x y)
  (zs:Array Value) (t:TypeId) (p:List Value) (hx:a.eval x=.pointer (some ⟨w.heap.size,0,none⟩)) (hy:a.eval y=.agg p.toArray) (D:zs.size=p.length)
  (hi:(P.info? ty).map (·.size)=some p.length) (h1:∀v∈p,v.oneCell'=true)
  (h:wpList P ops Q rest (a.put op.dst undef) (w.alloc (.cells p.toArray t))):wpList P ops Q (op::rest) a (w.alloc (.cells zs t)):=by
 refine qZc q ty x y A w.heap.size 0 p.toArray hx hy (fun j E=>?_) oB (qYo h1) ?_
 .rw [za (zc w _ rfl),zg (zc w _ rfl)];simp at E;exact⟨by rw[qXy,qxe oM];rfl,rfl⟩
 .rw [List.toList_toArray,tS w t p zs D];exact h
theorem zp{P:Program}{q:Func}{p u:Tmp}(A:q.results= #[.cell p ty,.tmp u])(h:Array Value)(w:World)(b o:Nat)(cs:List Value)(d:TypeDesc)
  (D:h.getD p undef=.pointer (some ⟨b,o,none⟩)) (E:w.rangeAt b o cs) (G:P.underlying ty=some d) (J:d.isRow=true) (K:(P.info? ty).map (·.size)=some cs.length):
  (results q h).run P w=.ok (.tuple #[.agg cs.toArray,h.getD u undef]) w:=by
 have L:h[p]?.getD undef=.pointer (some ⟨b,o,none⟩):=by simpa using D
 rw[results_cell_tmp A];simp[L,asAddr,run_loadVar_mid w b o ty cs d E G J K,Result.andThen]
theorem zq{P:Program}{q:Func}{p:Tmp}(A:q.results= #[.cell p ty])(h:Array Value)(w:World)(b o:Nat)(cs:List Value)(d:TypeDesc)
  (D:h.getD p undef=.pointer (some ⟨b,o,none⟩)) (E:w.rangeAt b o cs) (G:P.underlying ty=some d) (J:d.isRow=true) (K:(P.info? ty).map (·.size)=some cs.length):
  (results q h).run P w=.ok (.agg cs.toArray) w:=by
 have L:h[p]?.getD undef=.pointer (some ⟨b,o,none⟩):=by simpa using D
 simp[results,A,L,asAddr,run_loadVar_mid w b o ty cs d E G J K]
theorem zf{t:TypeId}{fz:Nat×Nat}(h:w.heap[g]?=some (.cells cs.toArray t fz)):w.rangeAt g 0 cs:=fun j v p=>by
 rw[za h,qXy];simpa using p
def AA(O:List (Nat×Bk)):List Value:=O.flatMap fun p=> .int .i64 (p.1:Int)::bkC p.2
structure DvGood(F:List Bk)(O:List (Nat×Bk))(P:List Int):Prop where
 f64:All64 F
 o64:∀p∈O,p.2.length=64/\p.1<F.length
 f1:1<=F.length
 fl:F.length<=4096
 ol:O.length<=65536
 pl:P.length<=65536
structure DvAt(w:World)(b:Nat)(vf vo vp:Value)(F:List Bk)(O:List (Nat×Bk))(P:List Int):Prop where
 str:w.heap[b]?=some (.cells #[vf,vo,vp] 79 (0,0))
 fs:Sl w 54 64 vf F.length (rowC F)
 os:Sl w 122 65 vo O.length (AA O)
 ps:Sl w 3 1 vp P.length (ints P)
 good:DvGood F O P
 fb:vf.ownBlock≠some b
 ob:vo.ownBlock≠some b
 pb:vp.ownBlock≠some b
 fo:Dis vf vo
 fp:Dis vf vp
 op:Dis vo vp
def dvS(b:Nat)(vf vo vp:Value):Nat->Prop:=fun j=>j=b\/vf.ownBlock=some j\/vo.ownBlock=some j\/vp.ownBlock=some j
section
variable{w w' w2:World}{b:Nat}{vf vo vp v2:Value}{F F':List Bk}{O O':List (Nat×Bk)}{P P':List Int}
theorem DvAt.keep(h:DvAt w b vf vo vp F O P)(q:Upd S w w')(A:∀j,dvS b vf vo vp j->¬S j):DvAt w' b vf vo vp F O P:=
 {h with
  str:=(q.block _ (zd h.str) (A b (.inl rfl))).trans h.str
  fs:=h.fs.keep q (fun g p=>A g (.inr (.inl p)))
  os:=h.os.keep q (fun g p=>A g (.inr (.inr (.inl p))))
  ps:=h.ps.keep q (fun g p=>A g (.inr (.inr (.inr p))))}
theorem DvAt.new(h:DvAt w b vf vo vp F O P)(p:Upd (fun _=>False) w w'):DvAt w' b vf vo vp F O P:=h.keep p (fun _ _ h=>h)
theorem DvAt.blt(h:DvAt w b vf vo vp F O P):b<w.heap.size:=zd h.str
theorem DvAt.slt(p:DvAt w b vf vo vp F O P):∀j,dvS b vf vo vp j->j<w.heap.size:=by
 rintro j (rfl|h|h|h)
 .exact p.blt
 .exact p.fs.lt h
 .exact p.os.lt h
 .exact p.ps.lt h
theorem DvAt.c(h:DvAt w b vf vo vp F O P):w.cell? ⟨b,0,none⟩=some vf/\w.cell? ⟨b,1,none⟩=some vo/\w.cell? ⟨b,2,none⟩=some vp:=by
 refine⟨?_,?_,?_⟩<;>rw[za h.str]<;>rfl
theorem DvAt.fz(h:DvAt w b vf vo vp F O P)(i:Nat):w.frozen? ⟨b,i,none⟩=false:=zg h.str i
end
def Dv(S:Nat->Prop)(w:World)(b:Nat)(F:List Bk)(O:List (Nat×Bk))(P:List Int):Prop:=
 ∃vf vo vp,DvAt w b vf vo vp F O P/\∀j,dvS b vf vo vp j->S j
section
variable{S:Nat->Prop}{w w':World}{b:Nat}{F:List Bk}{O:List (Nat×Bk)}{P:List Int}
theorem Dv.keep(h:Dv S w b F O P){T:Nat->Prop}(q:Upd T w w')(A:∀j,S j->¬T j):Dv S w' b F O P:=by
 obtain⟨vf,vo,vp,h,p⟩:=h;exact⟨vf,vo,vp,h.keep q (fun j D=>A j (p j D)),p⟩
theorem Dv.new(h:Dv S w b F O P)(p:Upd (fun _=>False) w w'):Dv S w' b F O P:=h.keep p (fun _ _ h=>h)
theorem Dv.out(h:Dv S w b F O P)(q:∀j,j<w.heap.size->S j->S' j):Dv S' w b F O P:=by
 obtain⟨vf,vo,vp,h,A⟩:=h;exact⟨vf,vo,vp,h,fun j p=>q j (h.slt j p) (A j p)⟩
theorem Dv.good(h:Dv S w b F O P):DvGood F O P:=by obtain⟨vf,vo,vp,h,-⟩:=h;exact h.good
end
def hasC(n:Nat)(s:Int):Int:=if s<0\/(n:Int)<=s then 10 else 0
theorem tT{F:List Bk}{O:List (Nat×Bk)}(h:Dv S w b F O P):
  Calls prog 55 #[.pointer (some ⟨b,0,none⟩)] w fun e w'=>e=.returned (.int .i64 F.length)/\w'=w:=by
 obtain⟨vf,vo,vp,h,-⟩:=h;obtain⟨p,-,-⟩:=h.c;obtain⟨q,c,rfl⟩:=h.fs.rd.jW;clear h;go_enter func55,ntmps55
 go_wp2
 go_ret
 exact⟨rfl,rfl⟩
theorem zbU{F:List Bk}{O:List (Nat×Bk)}(h:Dv S w b F O P):
  Calls prog 88 #[.pointer (some ⟨b,0,none⟩)] w fun e w'=>e=.returned (.int .i64 O.length)/\w'=w:=by
 obtain⟨vf,vo,vp,h,-⟩:=h;obtain⟨-,p,-⟩:=h.c;obtain⟨q,c,rfl⟩:=h.os.rd.jW;clear h;go_enter func88,ntmps88
 go_wp2
 go_ret
 exact⟨rfl,rfl⟩
theorem zeO{F:List Bk}{O:List (Nat×Bk)}(h:Dv S w b F O P)(s:Int):
  Calls prog 56 #[.pointer (some ⟨b,0,none⟩),.int .i64 s] w fun e w'=>e=.returned (.int .i64 (hasC F.length s))/\w'=w:=by
 obtain⟨vf,vo,vp,h,-⟩:=h;obtain⟨q,-,-⟩:=h.c;have A:=h.good.fl;obtain⟨D,c,rfl⟩:=h.fs.rd.jW;clear h;by_cases h1:s<0
 .have p:hasC F.length s=10:=if_pos (.inl h1);rw[p];clear p;go_enter func56,ntmps56
  go_wp2
  go_ret
  exact⟨rfl,rfl⟩
 .by_cases h2:(F.length:Int)<=s
  .have p:hasC F.length s=10:=if_pos (.inr h2);rw[p];clear p;go_enter func56,ntmps56
   go_wp2
   go_ret
   exact⟨rfl,rfl⟩
  .have p:hasC F.length s=0:=if_neg (fun h=>h.elim h1 h2);rw[p];clear p;go_enter func56,ntmps56
   go_wp2
   go_ret
   exact⟨rfl,rfl⟩
def zB:Bk:=List.replicate 64 0
theorem zG:zB.length=64:=by simp[zB]
theorem WP:(prog.info? 54).map (fun i=>(i.zero,i.size,i.bytes))=some (some (bkV zB),64,64):=kR
theorem RK(n:Nat)(x:Bk)(hx:x.length=64)(j:Nat)(A:j<n*64):(rowC (List.replicate n x))[j]?=(bkC x)[j%64]?:=by
 have p:All64 (List.replicate n x):=fun y hy=>by rw[(List.mem_replicate.1 hy).2];exact hx
 have q:j/64<(List.replicate n x).length:=by rw[qzd];omega
 have:=vA p q (j:=j%64) (qXu _ oM);rw[show j/64*64+j%64=j by omega]at this;rw[this];simp
theorem Ut(n:Nat)(h1:1<=n)(h2:n<=4096)(w:World):
  Calls prog 17 #[.int .i64 n] w fun e w'=>∃b,e=.returned (.tuple #[.pointer (some ⟨b,0,none⟩),.int .i64 0])/\
   Dv (fun j=>w.heap.size<=j) w' b (List.replicate n zB) [] []/\w.heap.size<=b/\Below w.heap.size w w':=by
 obtain⟨i,E,G,J,hz2⟩:=qYu WP;have K:=run_make (P:=prog) w 43 54 i (bkV zB) underlying43 E G .i64 .i64 n n oM (Int.le_refl _) jm oM;rw[qxs,J]at K;have q1:¬((n:Int)<1):=oM;have q2:¬((4096:Int)<n):=oM;obtain⟨C,q⟩:∃C:Array Value,C=madeCells (bkV zB).cells (n*64):=⟨_,rfl⟩
 rw[<-q]at K;have L:Hid (C.size=n*64/\∀(j:Nat) (u:Value),(rowC (List.replicate n zB))[j]?=some u->C[j]?=some u):=by
  refine⟨by rw[q,size_madeCells],fun j u p=>?_⟩;have A:All64 (List.replicate n zB):=fun y hy=>by rw[(List.mem_replicate.1 hy).2];exact zG
  have D:=(qyl.1 p).1;rw[uv A,qzd]at D;rw[RK n zB zG j D]at p;have N:(bkV zB).cells=(bkC zB).toArray:=rfl;have R:(bkC zB).length=64:=by rw[zn,zG]
  rw[q];simp only[madeCells,Array.getElem?_map,Array.getElem?_range,D,if_true,Option.map_some,N,qXh,R];rw[getElem!_def];simp only[qyq,p]
 clear q G J hz2 E;go_enter func17,ntmps17
 go_wp2
 go_ret2
 have U:(w.alloc (.cells C 54)).heap.size=w.heap.size+1:=oe;have A:All64 (List.replicate n zB):=fun y hy=>by rw[(List.mem_replicate.1 hy).2];exact zG
 have M:(List.replicate n zB).length=n:=qzd;refine⟨w.heap.size+1,rfl,⟨.slice (some ⟨w.heap.size,0,none⟩) n n,.slice none 0 0,.slice none 0 0,⟨zc _ _ U.symm,?_,Sl.nil _ _ _,Sl.nil _ _ _,⟨A,oe,oM,oM,oe,oe⟩,by simp[Value.ownBlock],by simp[Value.ownBlock],by simp[Value.ownBlock],(Dis.nil _ _ _).symm,(Dis.nil _ _ _).symm,Dis.nil _ _ _⟩,?_⟩,oM,(((qxl _ w).alloc (qXp _) _).alloc oe _)⟩
 .rw [M];refine Sl.keep (w:=w.alloc (.cells C 54)) ⟨by rw[uv A,M],.inr ⟨w.heap.size,0,n,C,rfl,zc w _ rfl,qXp _,by unfold maxLen;omega,by rw[L.o.1];omega,fun j u p=>by rw[qXy];exact L.o.2 j u p⟩⟩ (Upd.alloc (Upd.refl (fun _=>False) _) _) (fun _ _ h=>h)
 .rintro j (rfl|p|p|p)
  .omega
  .simp [Value.ownBlock]at p;omega
  .cases p
  .cases p
section
variable{w w' w2:World}{b:Nat}{vf vo vp v2:Value}{F F':List Bk}{O O':List (Nat×Bk)}{P P':List Int}
theorem Uu{x:Nat}(h:blockFrom w v v')(p:v.ownBlock≠some x)(hx:x<w.heap.size):v'.ownBlock≠some x:=by
 intro e;rcases h with h|⟨g,h,q⟩
 .exact p (by rw[<-h,e])
 .rw [h]at e;cases e;omega
theorem DvAt.setPlan(h:DvAt w b vf vo vp F O P)(q:Upd (ownS vp) w w2)(h2:Sl w2 3 1 v2 P'.length (ints P'))(A:blockFrom w vp v2)(p:DvGood F O P'):DvAt (w2.setCell ⟨b,2,none⟩ v2) b vf vo v2 F O P':=
 have D:=Uu A h.pb h.blt;have E:w2.heap[b]?=_:=(q.block b h.blt (fun e=>h.pb e)).trans h.str
 {str:=zh E 2 v2
  fs:=(h.fs.kB h.fp q).kA (zi _ _ _ _) h.fb
  os:=(h.os.kB h.op q).kA (zi _ _ _ _) h.ob
  ps:=h2.kA (zi _ _ _ _) D
  good:=p
  fb:=h.fb
  ob:=h.ob
  pb:=D
  fo:=h.fo
  fp:=(h.fp.symm.from A (fun _g p=>h.fs.lt p)).symm
  op:=(h.op.symm.from A (fun _g p=>h.os.lt p)).symm}
theorem DvAt.setOpen(h:DvAt w b vf vo vp F O P)(q:Upd (ownS vo) w w2)(h2:Sl w2 122 65 v2 O'.length (AA O'))(A:blockFrom w vo v2)(p:DvGood F O' P):DvAt (w2.setCell ⟨b,1,none⟩ v2) b vf v2 vp F O' P:=
 have D:=Uu A h.ob h.blt;have E:w2.heap[b]?=_:=(q.block b h.blt (fun e=>h.ob e)).trans h.str
 {str:=zh E 1 v2
  fs:=(h.fs.kB h.fo q).kA (zi _ _ _ _) h.fb
  os:=h2.kA (zi _ _ _ _) D
  ps:=(h.ps.kB h.op.symm q).kA (zi _ _ _ _) h.pb
  good:=p
  fb:=h.fb
  ob:=D
  pb:=h.pb
  fo:=(h.fo.symm.from A (fun _g p=>h.fs.lt p)).symm
  fp:=h.fp
  op:=h.op.from A (fun _g p=>h.ps.lt p)}
end
theorem DvGood.tail{F:List Bk}{O:List (Nat×Bk)}(h:DvGood F O P):DvGood F O P.tail:={h with pl:=by rw[List.length_tail];have:=h.pl;omega}
def fate(P:List Int):Int:=P.headD 0
theorem zeP{F:List Bk}{O:List (Nat×Bk)}(h:Dv S w b F O P)(V:w.cell? ⟨g,0,none⟩=some (.pointer (some ⟨b,0,none⟩))):
  Calls prog 96 #[.pointer (some ⟨g,0,none⟩)] w fun e w'=>e=.returned (.int .i64 (fate P))/\Dv S w' b F O P.tail/\Upd (fun j=>j=b) w w':=by
 obtain⟨vf,vo,vp,h,A⟩:=h;have H:=Y2 h A;obtain⟨-,-,W⟩:=h.c;have X:=h.fz 2;cases P with
 |nil=>
  obtain⟨Y,c,rfl⟩:=h.ps.rd.jW;clear h A;go_enter func96,ntmps96
  go_wp2
  go_ret
  exact⟨rfl,⟨vf,vo,_,H.o.1,H.o.2⟩,Upd.refl _ _⟩
 |cons G P=>
  obtain⟨p,op,q,Z,rfl,R,U,J⟩:=h.ps.at oe;have a6:=(za R op).trans (J 0 (.int .i64 G) rfl);have a7:=h.good.pl;have K:=Sl.tail (h.ps:Sl w 3 1 (.slice (some ⟨p,op,none⟩) (P.length+1) q) (P.length+1) (.int .i64 G::ints P));have L:=qqh K;have M:Hid (DvGood F O P):=h.good.tail;clear h A J U K;by_cases N:q=1
  .have D:Hid (Dv S (w.setCell ⟨b,2,none⟩ (.slice (some ⟨p,op,none⟩) P.length 0)).drew b F O P):=
    Dv.new ⟨vf,vo,_,H.o.1.setPlan (Upd.refl _ _) (L.o.2.1 N) (.inl rfl) M.out,H.o.2⟩ ((Upd.refl _ _).drew)
   have E:Hid (Upd (fun j=>j=b) w (w.setCell ⟨b,2,none⟩ (.slice (some ⟨p,op,none⟩) P.length 0)).drew):=(zi _ _ _ _).drew;subst N;go_enter func96,ntmps96
   go_wp2
   go_region
   go_wp2
   go_ret
   exact⟨rfl,D.out,E.out⟩
  .have D:Hid (Dv S (w.setCell ⟨b,2,none⟩ (.slice (some ⟨p,op+1,none⟩) P.length (q-1))).drew b F O P):=
    Dv.new ⟨vf,vo,_,H.o.1.setPlan (Upd.refl _ _) L.o.1 (.inl rfl) M.out,H.o.2⟩ ((Upd.refl _ _).drew)
   have E:Hid (Upd (fun j=>j=b) w (w.setCell ⟨b,2,none⟩ (.slice (some ⟨p,op+1,none⟩) P.length (q-1))).drew):=(zi _ _ _ _).drew;go_enter func96,ntmps96
   go_wp2
   go_region
   go_wp2
   go_ret
   exact⟨rfl,D.out,E.out⟩
def RL(S:Nat->Prop)(w:World)(b:Nat)(F:List Bk)(O:List (Nat×Bk))(P:List Int)(failed:Int)(Q:World->Prop)(e:Ending)(w':World):Prop:=
 (fate P=1/\e=.returned (.int .i64 failed)/\Dv S w' b F O P.tail/\Upd (fun j=>j=b) w w')\/(fate P=0/\e=.returned (.int .i64 0)/\Q w')\/
  (fate P≠0/\fate P≠1/\e=.returned (.int .i64 0)/\Dv S w' b F O P.tail/\Upd (fun j=>j=b) w w')
theorem RM{F:List Bk}{O:List (Nat×Bk)}(E:Dv S w b F O P)(G:Int)(fd:Nat)(J:Array Value)(Q:World->Prop)
  (Y:∀K w,(callFunc fd K).run prog w=.ok (.enter fd K) w)
  (L:fate P=0->∀w1,Dv S w1 b F O P.tail->Upd (fun j=>j=b) w w1->Calls prog fd J w1 fun e w'=>e=.returned (.tuple #[])/\Q w'):
  Calls prog 57 #[.pointer (some ⟨b,0,none⟩),.int .i64 G,.func (.func fd) #[] J] w (RL S w b F O P G Q):=by
 have Z:=qqf;have A:Upd (fun _=>False) w (w.alloc (.cells #[.pointer (some ⟨b,0,none⟩)] 31)):=(Upd.refl _ _).alloc _;have D:=qqh (E.new A);have U:Hid ((w.alloc (.cells #[.pointer (some ⟨b,0,none⟩)] 31)).cell? ⟨w.heap.size,0,none⟩=some (.pointer (some ⟨b,0,none⟩))):=za (zc w _ rfl) 0;have V:=qqh L;have W:=qqh A;clear E L A;go_enter func57,ntmps57
 go_wp2_with fail
 refine(zeP D.o U.o).mono ?_;rintro e w1 ⟨rfl,M,N⟩;have h:=Y2 M ((W.o.mono fE).trans N);clear M N;by_cases h1:fate P=1
 .have D:=qqh h1;rw[h1];clear h1;go_wp2
  go_ret
  exact .inl ⟨D.o,rfl,h.out.1,h.out.2⟩
 .by_cases p:fate P=0
  .have q:=qqh p;rw[p];clear p h1;go_wp2_with fail
   refine(V.o q.o w1 h.out.1 h.out.2).mono ?_;rintro e w2 ⟨rfl,R⟩;have X:=qqh R;clear R;go_wp2
   go_ret
   exact .inr (.inl ⟨q.o,rfl,X.o⟩)
  .have q1:(fate P==1)=false:=by simpa using h1
   have a6:(fate P==0)=false:=by simpa using p
   have q:=Y2 p h1;clear p h1;go_wp2
   go_ret
   exact .inr (.inr ⟨q.o.1,q.o.2,rfl,h.out.1,h.out.2⟩)
abbrev wrC(s:Int)(x:Bk):List Value:=.int .i64 s::bkC x
theorem wrC_len(s:Int)(x:Bk):(wrC s x).length=x.length+1:=by simp[wrC,zn]
theorem uw(s:Int)(x:Bk):∀v∈wrC s x,v.oneCell'=true:=by
 intro v h;rcases qzm.1 h with rfl|p
 .rfl
 .exact zu x v p
theorem yQ(off:Nat)(cs z:Array Value):(Array.foldl (fun(cs:Array Value) (x:Value×Nat)=>cs.setIfInBounds (off+x.2) x.1) z cs.zipIdx).size=z.size/\
  ∀k,(Array.foldl (fun(cs:Array Value) (x:Value×Nat)=>cs.setIfInBounds (off+x.2) x.1) z cs.zipIdx)[k]?=if off<=k/\k<off+cs.size/\k<z.size then cs[k-off]? else z[k]?:=by
 rw[<-Array.foldl_toList,Array.toList_zipIdx];obtain⟨h1,h2⟩:=Go.Great.foldl_set off cs.toList 0 z;exact⟨h1,fun k=>by rw[h2 k];simp⟩
theorem xw(pl:Nat->Option (Nat×Nat))(z:Array Value)(i off size:Nat)(v:Value)(rest:List (Nat×Value))(h:pl i=some (off,size))(p:v.cells.size=size)(q:off+size<=z.size):
  Instr.fill pl z ((i,v)::rest)=Instr.fill pl (Array.foldl (fun(cs:Array Value) (x:Value×Nat)=>cs.setIfInBounds (off+x.2) x.1) z v.cells.zipIdx) rest:=by
 show(match pl i with|none=>none|some (off,size)=>_)=_
 rw[h];show(if(decide (v.cells.size≠size)||decide (off+v.cells.size>z.size))=true then none else _)=_;rw[if_neg (by simp[p];omega)]
theorem YO(p q:Value)(A:p.cells.size=1)(D:q.cells.size=64)(z:Array Value)(E:z.size=65)(pl:Nat->Option (Nat×Nat))(G:pl 0=some (0,1))(h1:pl 1=some (1,64)):
  Instr.fill pl z [(0,p),(1,q)]=some (p.cells.toList++q.cells.toList).toArray:=by
 obtain⟨a1,a2⟩:=yQ 0 p.cells z;obtain⟨M,J⟩:=yQ 1 q.cells (Array.foldl (fun(cs:Array Value) (x:Value×Nat)=>cs.setIfInBounds (0+x.2) x.1) z p.cells.zipIdx);rw[xw pl z 0 0 1 p _ G A oM,xw pl _ 1 1 64 q _ h1 D (by rw[a1];omega)];show some _=_
 congr 1
 apply qxd
 intro k;rw[J k,a1,E,D];by_cases K:k<65
 .by_cases L:k=0
  .subst L;rw[if_neg oM,a2 0,if_pos ⟨oM,oM,oM⟩];rw[show((p.cells.toList++q.cells.toList).toArray)[0]?=(p.cells.toList++q.cells.toList)[0]? by rw[qyq],qyg og];simp
  .rw [if_pos ⟨oM,oM,K⟩,show((p.cells.toList++q.cells.toList).toArray)[k]?=(p.cells.toList++q.cells.toList)[k]? by rw[qyq],qyh og];simp[A]
 .rw [if_neg oM,a2 k,if_neg oM,qxf oM,qxf og]
theorem zck:(prog.info? 122).map (fun i=>(i.zero.map (·.cells.size),i.size,i.bytes))=some (some 65,65,72):=kR
theorem RN:(match prog.underlying 122 with|some (.struct fs)=>fs.toList.mapM (fun f=>(prog.info? f.type).map fun i=>(f.offset,i.size))|_=>none)=some [(0,1),(1,64)]:=kR
theorem xr:∃i z,prog.info? 122=some i/\i.zero=some z/\z.cells.size=65/\i.size=65/\i.bytes=72:=by
 obtain⟨i,p,h⟩:=qYc.1 zck;simp only[qYe]at h;obtain⟨h1,h2,q⟩:=h;obtain⟨z,A,D⟩:=qYc.1 h1;exact⟨i,z,p,A,D,h2,q⟩
theorem ux(p q:Value)(D:p.cells.size=1)(E:q.cells.size=64)(w:World):(Instr.build 122 #[(0,p),(1,q)]).run prog w=.ok (.agg (p.cells.toList++q.cells.toList).toArray) w:=by
 refine run_build w _ _ _ ?_;obtain⟨i,z,G,J,K,_,_⟩:=xr;have h:=RN;have A:=underlying122;unfold Program.built;rw[A]at h;rw[G,A];simp only[J];simp only at h;rw[h];exact YO p q D E z.cells K _ rfl rfl
theorem qK(v:Value)(p:v.cells.size=65)(w:World):(Instr.buildSlice 76 1 #[(0,v)]).run prog w=.ok (.slice (some ⟨w.heap.size,0,none⟩) 1 1) (w.alloc (.cells v.cells 122)):=by
 obtain⟨i,z,q,A,D,hsz,_⟩:=xr;refine run_buildSlice w _ _ 1 _ _ i z underlying76 q A jx jx ?_;obtain⟨a1,a2⟩:=yQ 0 v.cells ((Array.range (1*i.size)).map (z.cells[·%z.cells.size]!));rw[show(#[(0,v)]:Array (Nat×Value)).toList=[(0,v)]from rfl];rw[xw _ _ 0 0 65 v _ jD p jD];show some _=_
 congr 1
 apply qxd
 intro k;rw[a2 k];by_cases E:k<65
 .rw [if_pos ⟨oM,oM,by simp[hsz];omega⟩];rfl
 .rw [if_neg oM,qxf jQ,qxf oM]
theorem YP(h:Option Tmp)(ty:TypeId)(pos:String)(after:Array Edge)(p q:Operand)(a:Act)(w:World)(A:Act->World->Prop)(Q:Exit->Act->World->Prop)(D:(a.eval p).cells.size=1)(E:(a.eval q).cells.size=64):
  Oper.wp prog {dst:=h,op:=.build 122 #[(0,p),(1,q)],type:=ty,pos:=pos,after:=after,guard:=none} a w A Q=A (a.put h (.agg ((a.eval p).cells.toList++(a.eval q).cells.toList).toArray)) w:=by
 unfold Oper.wp execOp;have:=ux (a.eval p) (a.eval q) D E w;simp only[qzk,qzh,qzj,qYg,this,qYf];rfl
theorem TE(h:Option Tmp)(ty:TypeId)(pos:String)(after:Array Edge)(p:Operand)(a:Act)(w:World)(q:Act->World->Prop)(Q:Exit->Act->World->Prop)(A:(a.eval p).cells.size=65):
  Oper.wp prog {dst:=h,op:=.buildSlice 76 1 #[(0,p)],type:=ty,pos:=pos,after:=after,guard:=none} a w q Q=q (a.put h (.slice (some ⟨w.heap.size,0,none⟩) 1 1)) (w.alloc (.cells (a.eval p).cells 122)):=by
 unfold Oper.wp execOp;have:=qK (a.eval p) A w;simp only[qzk,qzh,qzj,qYg,this,qYf];rfl
theorem sx(a:Act)(p q:Operand)(w:World)(h:(a.eval p).cells.size=1)(A:(a.eval q).cells.size=64):
  (Instr.build 122 ((#[(0,p),(1,q)]:Array (Nat×Operand)).map fun(i,x)=>(i,a.eval x))).run prog w=.ok (.agg ((a.eval p).cells.toList++(a.eval q).cells.toList).toArray) w:=by
 have:=ux (a.eval p) (a.eval q) h A w;simp only[qzk,qzh,qzj];exact this
theorem YQ(a:Act)(p:Operand)(w:World)(h:(a.eval p).cells.size=65):
  (Instr.buildSlice 76 1 ((#[(0,p)]:Array (Nat×Operand)).map fun(i,x)=>(i,a.eval x))).run prog w=.ok (.slice (some ⟨w.heap.size,0,none⟩) 1 1) (w.alloc (.cells (a.eval p).cells 122)):=by
 have:=qK (a.eval p) h w;simp only[qzk,qzh,qzj];exact this
theorem ZC:Tryz.zeroCells122.size=65:=kR
theorem RO(s:Int)(x:Bk)(hx:x.length=64):List.foldl (fun(cs:Array Value) (x:Value×Nat)=>cs.setIfInBounds (1+x.2) x.1) (Tryz.zeroCells122.setIfInBounds 0 (.int .i64 s)) (bkC x).zipIdx=(wrC s x).toArray:=by
 have p:(bkC x).length=64:=by rw[zn,hx]
 have q:(Tryz.zeroCells122.setIfInBounds 0 (.int .i64 s)).size=65:=by rw[Array.size_setIfInBounds,ZC]
 obtain⟨_,A⟩:=Go.Great.foldl_set 1 (bkC x) 0 (Tryz.zeroCells122.setIfInBounds 0 (.int .i64 s));apply qxd
 intro k;rw[A k,q];by_cases D:k<65
 .by_cases E:k=0
  .subst E;rw[if_neg oM,Array.getElem?_setIfInBounds_self_of_lt (by rw[ZC];omega)];simp
  .rw [if_pos ⟨oM,oM,D⟩];obtain⟨m,rfl⟩:∃m,k=m+1:=⟨k-1,oM⟩
   simp
 .rw [if_neg oM,qxf oM,qxf (by simp[p];omega)]
theorem yy{P:Program}{m:Nat}{x':Value}{news:List Value}(t ty:TypeId)
  (i:TypeInfo) (z:Value) (J:Nat) (A:P.underlying t=some (.slice e)) (D:P.info? e=some i) (a7:i.zero=some z)
  (M:i.size=k) (a8:i.bytes=J) (aa:z.cells.size=k) (ab:0<k)
  (K:Sl w e k v n xs) (ai:Rd w k x' m news) (h1:∀u∈news,u.oneCell'=true) (ad:n+m<=maxLen) (ae:(n+m)*J<=140737488355328):
  ∃v' w',(Builtin.append_ #[t,t] ty #[v,x']).run P w=.ok v' w'/\Sl w' e k v' (n+m) (xs++news)/\Upd (ownS v) w w'/\blockFrom w v v':=by
 obtain⟨hnl,ax,aj,N,rfl,ak,am⟩:=ai;cases aj with
 |none=>
  have an:=ak rfl;subst an;obtain rfl:news=[]:=qyb jP;refine⟨v,w,?_,by simpa using K,Upd.refl _ _,.inl rfl⟩;obtain⟨_,⟨rfl,rfl⟩|⟨g,off,cap,af,rfl,p,ag,ah,ao,R⟩⟩:=K
  .simp [Builtin.append_,run_underlying A,sizeOf,typeInfo,D,Builtin.lenOf,Builtin.firstCells]
  .simp [Builtin.append_,run_underlying A,sizeOf,typeInfo,D,Builtin.lenOf,Builtin.firstCells,ag,storeCells]
 |some L=>
  have U:=am L rfl;have ap:=K;obtain⟨V,⟨rfl,rfl⟩|⟨g,off,cap,af,rfl,p,ag,ah,ao,R⟩⟩:=K
  .obtain rfl:xs=[]:=qyb (by simpa using V);cases m with
   |zero=>
    obtain rfl:news=[]:=qyb jP;refine⟨.slice none 0 0,w,?_,by simpa using ap,Upd.refl _ _,.inl rfl⟩;simp[Builtin.append_,run_underlying A,sizeOf,typeInfo,D,Builtin.lenOf,Builtin.firstCells,loadCells,loadCellsFrom]
   |succ m=>
    obtain⟨v',w',E,G,W,_⟩:=run_append_own (P:=P) w w.heap.size t ty e i z k J A D a7 M a8 aa ab (.slice none 0 0) 0 [] (World.ownsRow_nil w _ e k) L (m+1) N news hnl U h1 ad ae (qXp _);refine⟨v',w',E,Sl.of_own G,Upd.kj W (fun g p _=>by cases p),?_⟩;rcases G.2 with⟨rfl,aq⟩|⟨X,ar,Y,rfl,Z,_⟩
    .omega
    .exact .inr ⟨X,rfl,Z⟩
  .by_cases a6:n+m<=cap
   .have au:=qXv k a6;rw[Nat.add_mul]at au;subst M;have E:=run_append_room_cells (P:=P) w t ty e i A D g off n cap L m N news hnl U h1 a6 (fun j q=>by rw[za p];simp;omega) (fun j _=>zg p _);obtain⟨Y,h2,ay,av⟩:=zC news (off+n*i.size) w g af e (0,0) p;refine⟨_,_,E,⟨by rw[qyy,V,hnl,Nat.add_mul],.inr ⟨g,off,cap,Y,rfl,h2,a6,ah,oM,fun j u q=>?_⟩⟩,yo _ w g _ news rfl,.inl rfl⟩;rw[av];by_cases aw:j<xs.length
    .rw [qyg aw]at q;rw[if_neg oM];exact R j u q
    .rw [qyh oM]at q;have hlt:=(qyl.1 q).1;rw[if_pos ⟨oM,oM,oM⟩];have:off+j-(off+n*i.size)=j-xs.length:=oM;rw[this];exact q
   .obtain ⟨v',w',E,G,W⟩:=run_append_arg_grows (P:=P) w t ty e i z k J A D a7 M a8 aa ab ⟨g,off,none⟩ n cap xs V (fun j u q=>by rw[qxa,za p];exact R j u q) L m N news hnl U oM ad ae;refine⟨v',w',E,Sl.of_own G,Upd.kj W (fun g p _=>by cases p),?_⟩;rcases G.2 with⟨rfl,aq⟩|⟨X,ar,Y,rfl,Z,_⟩
    .omega
    .exact .inr ⟨X,rfl,Z⟩
attribute [local go_sem↓] YP TE sx YQ Go.wp_at_zero Go.wp_at_succ
theorem YR(O:List (Nat×Bk))(s:Nat)(x:Bk):AA (O++[(s,x)])=AA O++wrC s x:=by simp[AA,wrC]
theorem zv(x:Bk)(hx:x.length=64):(prog.info? 54).map (·.size)=some (bkC x).length:=by
 obtain⟨i,h,_,h1,_⟩:=qYu WP;rw[h,zn,hx,Option.map_some,h1]
theorem DvGood.write{F:List Bk}{O:List (Nat×Bk)}(h:DvGood F O P){x:Bk}(p:s<F.length)(hx:x.length=64)(D:O.length<65536):DvGood F (O++[(s,x)]) P:={h with
 o64:=by intro q A;rcases qzl.1 A with h1|h1;exact h.o64 q h1;simp at h1;subst h1;exact⟨hx,p⟩
 ol:=by simp;omega}
theorem zl{a:Addr}(h:w.cell? a=some v)(o:Obj):(w.alloc o).cell? a=some v:=by
 rw[World.cell?_alloc_some w a o (by rw[h];rfl),h]
theorem Upd.jU(p:Upd S w w'){o:Nat}(h:w.cell? ⟨g,o,none⟩=some v)(q:¬S g):w'.cell? ⟨g,o,none⟩=some v:=by
 have e:=p.block g (qYh w _ h) q;unfold World.cell? at*;simp only[e];exact h
theorem Upd.range(h:Upd S w w'){o:Nat}(p:w.rangeAt g o cs)(q:¬S g):w'.rangeAt g o cs:=fun j v A=>h.jU (p j v A) q
theorem zt{o:Nat}(h:w.cell? ⟨g,o,none⟩=some v)(p:¬b=g):(w.setCell ⟨b,o',none⟩ u).cell? ⟨g,o,none⟩=some v:=by
 rw[World.cell?_setCell_other _ _ _ _ (fun e=>p (congrArg Addr.block e)),h]
theorem zE{o:Nat}(h:w.rangeAt g o cs)(p:¬b=g):(w.setCell ⟨b,o',none⟩ u).rangeAt g o cs:=fun j v q=>zt (h j v q) p
theorem zQ{P:Program}{ops:Array Oper}{o:Oper}{a:Act}{h:Act->World->Prop}{Q:Exit->Act->World->Prop}{E:Prop}
  (A:o.guard=none) (s x:Operand) (t:TypeId) (D:o.op=Op.call {callee:=Callee.builtin Builtin.append,args:= #[s,x],argTypes:= #[t,t]})
  {p q:Value}  (G:a.eval s=p) (hx:a.eval x=q) (J:(Builtin.append_ #[t,t] o.type #[p,q]).run P w=.ok v' w')
  (K:h (a.put o.dst v') w'):
  if Region.wanted o (yielded ops a.tmps)=true then Oper.wp P o a w h Q else E:=by
 have L:Region.wanted o (yielded ops a.tmps)=true:=by simp[Region.wanted,A]
 rw[if_pos L];unfold Oper.wp;simp[execOp,D,resolve,invoke,builtin,G,hx,J,Result.andThen];exact K
theorem Zcg01{P:Prop}(h:P:=by
  go_simp
  refine p.o _ _ (by(go_split_ands;(simp only[qYk,qYi]at*);((repeat' constructor)<;>first|assumption|(apply zl;assumption)|(refine zt ?_ ?_<;>assumption)|(refine zE ?_ ?_<;>assumption)|(apply qYj;assumption)|(apply qYn;assumption)))) (fun az=>?_);clear p A;refine Wl.r 9 (fun A p=>?_);refine zQ rfl _ _ _ rfl rfl rfl af ?_;refine p.o _ _ (by(go_split_ands;(simp only[qYk,qYi]at*);((repeat' constructor)<;>first|assumption|(apply zl;assumption)|(refine zt ?_ ?_<;>assumption)|(refine zE ?_ ?_<;>assumption)|(apply qYj;assumption)|(apply qYn;assumption)))) (fun a6=>?_);clear p A;refine Wl.i [10,11] ?_;iterate 2 refine Wl.t a6 ?_
  refine Wl.o ?_;refine Wl.r 12 (fun A p=>?_);go_simp
  refine p.o _ _ (by(go_split_ands;(simp only[qYk,qYi]at*);((repeat' constructor)<;>first|assumption|(apply zl;assumption)|(refine zt ?_ ?_<;>assumption)|(refine zE ?_ ?_<;>assumption)|(apply qYj;assumption)|(apply qYn;assumption)))) (fun aA=>?_);clear p A;refine Wl.d ?_
  go_end0
  obtain⟨q,R,G,E,D⟩:=aj.o;have V:=ah.out;have a7:(O++[(s,x)]).length=O.length+1:=oe;rw[a7]at V G;refine⟨rfl,⟨vf,_,vp,V,?_⟩,?_⟩
  .rintro j (rfl|h|h|h)
   .exact q _ (.inl rfl)
   .exact q _ (.inr (.inl h))
   .rcases G with e|⟨g,a8,hge⟩
    .exact q _ (.inr (.inr (.inl (e▸h))))
    .rw [a8]at h;cases h;exact R _ (qXr E.size hge)
   .exact q _ (.inr (.inr (.inr h)))
  .exact ((E.mono fE).trans (D.mono (fun k _ K=>q _ (.inr (.inr (.inl K)))))).trans (Upd.mono (zi _ _ _ _) (fun k _ K=>K▸q _ (.inl rfl)))):P:=h
theorem AG{L M N:Nat}{F:List Bk}{O:List (Nat×Bk)}(h:Dv S w b F O P)(R:∀j,w.heap.size<=j->S j)(s:Nat)(x:Bk)(ak:s<F.length)(hx:x.length=64)(am:O.length<65536)
  (aa:w.cell? ⟨L,0,none⟩=some (.pointer (some ⟨b,0,none⟩))) (c1:w.cell? ⟨M,0,none⟩=some (.int .i64 (s:Int))) (c2:w.rangeAt N 0 (bkC x))
  (s0:¬S L) (ab:¬S M) (ad:¬S N):
  Calls prog 58 #[.pointer (some ⟨L,0,none⟩),.pointer (some ⟨M,0,none⟩),.pointer (some ⟨N,0,none⟩)] w fun e w'=>e=.returned (.tuple #[])/\Dv S w' b F (O++[(s,x)]) P/\Upd S w w':=by
 obtain⟨vf,vo,vp,h,q⟩:=h;obtain⟨i,z,an,ao,ap,aq,ar⟩:=xr;have E:Upd (fun _=>False) w (w.alloc (.cells (wrC s x).toArray 122)).drew:=((Upd.refl _ _).alloc _).drew;have J:=h.new E;have ae:Rd (w.alloc (.cells (wrC s x).toArray 122)).drew 65 (.slice (some ⟨w.heap.size,0,none⟩) 1 1) 1 (wrC s x):=
  Rd.keep (Rd.fresh w (wrC s x) 122 1 (by rw[wrC_len,hx]) oh) ((Upd.refl (fun _=>False) _).drew) (fun _ _ h=>h)
 obtain⟨v',w1,af,U,D,G⟩:=yy 76 76 i z 72 underlying76 an ao aq ar ap de J.os ae (uw s x) oh oM;rw[<-YR]at U;have ag:O.length+1=(O++[(s,x)]).length:=oe;rw[ag]at U;obtain⟨aB,aC,rfl⟩:=U.rd.jW;have ah:=qqh (J.setOpen D U G (J.good.write ak hx am));have X:=(D.block b J.blt (fun e=>J.ob e)).trans J.str;have au:=za X 1;have aD:=zg X 1;simp at au;obtain⟨-,ai,-⟩:=h.c;have aE:=RO (s:Int) x hx;have av:=underlying54;have aw:=zv x hx;have aF:(bkC x).length=64:=by rw[zn,hx]
 have aG:=zu x;have W:∀g,¬S g->¬ownS vo g:=fun g ax e=>ax (q g (.inr (.inr (.inl e))));have aH:=D.jU (zl aa _) (W L s0);have q1:=D.jU (zl c1 _) (W M ab);have q2:=D.range (qYj c2 _) (W N ad);have aI:¬b=L:=fun e=>s0 (e▸q b (.inl rfl));have aJ:¬b=M:=fun e=>ab (e▸q b (.inl rfl));have aK:¬b=N:=fun e=>ad (e▸q b (.inl rfl));have aL:=zl ai (.cells (wrC s x).toArray 122);have aM:=World.new_ne w _ aa;have aN:=World.new_ne w _ c1;have aO:=World.new_ne w _ ai;have aj:=Y5 q R G E D;clear W J U D G E ae X q R ag h;go_enter func58,ntmps58
 refine qZd (S:=fun Y=>Y.cell? ⟨L,0,none⟩=some (.pointer (some ⟨b,0,none⟩))/\Y.cell? ⟨M,0,none⟩=some (.int .i64 (s:Int))/\Y.rangeAt N 0 (bkC x)) kR (by(go_split_ands;(simp only[qYk,qYi]at*);((repeat' constructor)<;>first|assumption|(apply zl;assumption)|(refine zt ?_ ?_<;>assumption)|(refine zE ?_ ?_<;>assumption)|(apply qYj;assumption)|(apply qYn;assumption)))) (fun Z=>?_);refine Wl.i [0,1,2,3,5] ?_;iterate 5 refine Wl.t Z ?_
 refine Wl.o ?_;refine Wl.l 6 (fun w h=>h.2.2) av aw Z ?_;refine Wl.i [7] (Wl.t Z (Wl.o ?_));refine qYy (rs:=[4,8]) kR oe ?_;refine qxb rfl (fun A p=>?_) (qxb rfl (fun A p=>?_) qxc)
 .go_simp
  refine p.o _ _ (by(go_split_ands;(simp only[qYk,qYi]at*);((repeat' constructor)<;>first|assumption|(apply zl;assumption)|(refine zt ?_ ?_<;>assumption)|(refine zE ?_ ?_<;>assumption)|(apply qYj;assumption)|(apply qYn;assumption)))) (fun ay=>?_);clear p A;refine Wl.r 8 (fun A p=>?_);exact Zcg01
 .go_simp
  refine p.o _ _ (by(go_split_ands;(simp only[qYk,qYi]at*);((repeat' constructor)<;>first|assumption|(apply zl;assumption)|(refine zt ?_ ?_<;>assumption)|(refine zE ?_ ?_<;>assumption)|(apply qYj;assumption)|(apply qYn;assumption)))) (fun ay=>?_);clear p A;refine Wl.r 4 (fun A p=>?_);exact Zcg01
theorem Dv.kw{T:Nat->Prop}{F:List Bk}{O:List (Nat×Bk)}(h:Dv S w b F O P)(q:∀j,S j->j<w.heap.size->T j):Dv T w b F O P:=by
 obtain⟨vf,vo,vp,h,A⟩:=h;exact⟨vf,vo,vp,h,fun j p=>q j (A j p) (h.slt j p)⟩
theorem Dv.wide{T:Nat->Prop}{F:List Bk}{O:List (Nat×Bk)}(h:Dv S w b F O P)(p:∀j,S j->T j):Dv T w b F O P:=by
 obtain⟨vf,vo,vp,h,q⟩:=h;exact⟨vf,vo,vp,h,fun j A=>p j (q j A)⟩
theorem Dv.sb{F:List Bk}{O:List (Nat×Bk)}(h:Dv S w b F O P):S b/\b<w.heap.size:=by
 obtain⟨vf,vo,vp,h,p⟩:=h;exact⟨p b (.inl rfl),h.blt⟩
theorem tr{s:Int}(h:hasC n s=0):(s.toNat:Int)=s/\s.toNat<n:=by
 unfold hasC at h;split at h
 .omega
 .omega
def TF(S:Nat->Prop)(w:World)(b:Nat)(F:List Bk)(O:List (Nat×Bk))(P:List Int)(s:Int)(x:Bk)(e:Ending)(w':World):Prop:=
 (hasC F.length s≠0/\e=.returned (.int .i64 (hasC F.length s))/\Dv S w' b F O P/\Upd S w w')\/
 (hasC F.length s=0/\fate P=1/\e=.returned (.int .i64 20)/\Dv S w' b F O P.tail/\Upd S w w')\/
 (hasC F.length s=0/\fate P=0/\e=.returned (.int .i64 0)/\Dv S w' b F (O++[(s.toNat,x)]) P.tail/\Upd S w w')\/
 (hasC F.length s=0/\fate P≠0/\fate P≠1/\e=.returned (.int .i64 0)/\Dv S w' b F O P.tail/\Upd S w w')
theorem zcl{F:List Bk}{O:List (Nat×Bk)}(h:Dv S w b F O P)(L:∀j,w.heap.size<=j->S j)(s:Int)(x:Bk)(hx:x.length=64)(M:O.length<65536):
  Calls prog 28 #[.pointer (some ⟨b,0,none⟩),.int .i64 s,bkV x] w (TF S w b F O P s x):=by
 have aj:=qqf;have H:=Y4 h L hx M;clear h L hx M;go_enter func28,ntmps28
 go_wp2_with fail
 rename_i ak cs a6
 obtain rfl:(bkC x).toArray=cs:=by injection a6
 clear a6;have E:Upd (fun _=>False) w (((w.alloc (.cells #[.pointer (some ⟨b,0,none⟩)] 31)).alloc (.cells #[.int .i64 s] 3)).alloc (.cells (bkC x).toArray 54)):=(((Upd.refl _ w).alloc _).alloc _).alloc _;have W:(((w.alloc (.cells #[.pointer (some ⟨b,0,none⟩)] 31)).alloc (.cells #[.int .i64 s] 3)).alloc (.cells (bkC x).toArray 54)).cell? ⟨w.heap.size,0,none⟩=some (.pointer (some ⟨b,0,none⟩)):=
  zl (zl (za (zc w _ rfl) 0) _) _
 have c1:(((w.alloc (.cells #[.pointer (some ⟨b,0,none⟩)] 31)).alloc (.cells #[.int .i64 s] 3)).alloc (.cells (bkC x).toArray 54)).cell? ⟨w.heap.size+1,0,none⟩=some (.int .i64 s):=
  zl (za (zc _ _ oe) 0) _
 have c2:(((w.alloc (.cells #[.pointer (some ⟨b,0,none⟩)] 31)).alloc (.cells #[.int .i64 s] 3)).alloc (.cells (bkC x).toArray 54)).rangeAt (w.heap.size+1+1) 0 (bkC x):=fun j v af=>by
  rw[za (zc _ _ oe)];simpa using af
 have N:(((w.alloc (.cells #[.pointer (some ⟨b,0,none⟩)] 31)).alloc (.cells #[.int .i64 s] 3)).alloc (.cells (bkC x).toArray 54)).heap.size=w.heap.size+3:=oe;generalize (((w.alloc (.cells #[.pointer (some ⟨b,0,none⟩)] 31)).alloc (.cells #[.int .i64 s] 3)).alloc (.cells (bkC x).toArray 54))=ag at E W c1 c2 N⊢;have a7:Dv S ag b F O P:=H.o.1.keep E (fun _ _ h=>h);have U:=Y4 a7 E c2 N;clear a7 E c2 N;refine(zeO U.o.1 s).mono ?_;rintro e a8 ⟨rfl,rfl⟩;by_cases K:hasC F.length s=0
 .have G:=qqh K;rw[K];clear K;go_wp2_with fail
  obtain⟨X,L,hx,M⟩:=H.o;obtain⟨-,E,c2,N⟩:=U.o;have aa:∀j,((S j/\j<w.heap.size)\/w.heap.size+3<=j)->S j:=by
   rintro j (⟨h,-⟩|h)
   .exact h
   .exact L j oM
  have ab:Dv (fun j=>(S j/\j<w.heap.size)\/w.heap.size+3<=j) a8 b F O P:=(X.kw (fun j q ah=> .inl ⟨q,ah⟩)).keep E (fun _ _ h=>h);have V:=X.sb;have Y:=tr G.o;have J:=Y2 aa E;have am:=qqh G.o;refine(RM ab 20 58 _ (fun ad=>Dv (fun j=>(S j/\j<w.heap.size)\/w.heap.size+3<=j) ad b F (O++[(s.toNat,x)]) P.tail/\Upd (fun j=>(S j/\j<w.heap.size)\/w.heap.size+3<=j) a8 ad) (fun _ _=>rfl) ?_).mono ?_
  .intro an w1 ai R;have Z:∀k,¬w.heap.size+k=b:=fun k=>oM;refine(AG ai (fun j q=> .inr (by have:=R.size;omega)) s.toNat x Y.2 hx M (R.jU W (Z 0)) (by rw[Y.1];exact R.jU c1 (Z 1)) (R.range c2 (Z 2)) oM oM oM).mono ?_;rintro e w' ⟨rfl,A,D⟩;exact⟨rfl,A,(R.mono (fun j _ q=>q▸ .inl ⟨V.1,V.2⟩)).trans D⟩
  .clear ab X L hx M E c2 N aa W c1 Y;have ae:=qqh V;clear V;rintro e ao (⟨h1,rfl,A,D⟩|⟨h1,rfl,A,D⟩|⟨h1,h2,rfl,A,D⟩)
   .have p:=Y3 h1 A D;clear h1 A D;go_wp2
    go_ret
    exact .inr (.inl ⟨G.o,p.out.1,rfl,p.out.2.1.wide J.o.1,(J.o.2.mono fE).trans (p.out.2.2.mono (fun j _ q=>q▸ae.o.1))⟩)
   .have p:=Y3 h1 A D;clear h1 A D;go_wp2
    go_ret
    exact .inr (.inr (.inl ⟨G.o,p.out.1,rfl,p.out.2.1.wide J.o.1,(J.o.2.mono fE).trans (p.out.2.2.mono (fun j _ q=>J.o.1 j q))⟩))
   .have p:=Y4 h1 h2 A D;clear h1 h2 A D;go_wp2
    go_ret
    exact .inr (.inr (.inr ⟨G.o,p.out.1,p.out.2.1,rfl,p.out.2.2.1.wide J.o.1,(J.o.2.mono fE).trans (p.out.2.2.2.mono (fun j _ q=>q▸ae.o.1))⟩))
 .have G:=qqh K;have hz':(hasC F.length s==0)=false:=by simpa using K
  clear K;go_wp2
  go_ret
  exact .inl ⟨G.o,rfl,U.o.1,U.o.2.1.mono fE⟩
def flushF(F:List Bk)(O:List (Nat×Bk)):List Bk:=O.foldl (fun F p=>F.set p.1 p.2) F
theorem xK(F:List Bk)(O:List (Nat×Bk))(p:Nat×Bk):flushF F (O++[p])=(flushF F O).set p.1 p.2:=by simp[flushF]
theorem zM(F:List Bk)(O:List (Nat×Bk)):(flushF F O).length=F.length:=by
 induction O generalizing F with
 |nil=>rfl
 |cons p O h=>simp only[flushF,List.foldl_cons]at h⊢;rw[h];simp
theorem RP{O:List (Nat×Bk)}(h:∀p∈O,p.2.length=64){i:Nat}(hi:i<O.length)(q:j<65):(AA O)[i*65+j]?=(wrC O[i].1 O[i].2)[j]?:=by
 induction O generalizing i with
 |nil=>simp at hi
 |cons x O A=>
  have h1:=h x oe;cases i with
  |zero=>
   simp only[AA,qye,qYa,qXy,qys];rw[qyg (by simp[zn,h1];exact q)]
  |succ i=>
   simp only[AA,qye,qyr];rw[qyh (by simp[zn,h1];omega)];have:=A (fun y hy=>h y (by simp[hy])) (i:=i) oB;rw[<-this];simp only[qyz,zn,h1]
   congr 1
   omega
section
variable{w w' w2:World}{b:Nat}{vf vo vp v2:Value}{F F':List Bk}{O O':List (Nat×Bk)}{P P':List Int}
theorem DvAt.opRange(p:DvAt w b vf vo vp F O P)(q:k<O.length):∃g off cap,vo=.slice (some ⟨g,off,none⟩) O.length cap/\g<w.heap.size/\O.length<=cap/\w.rangeAt g (off+k*65) (wrC O[k].1 O[k].2):=by
 obtain⟨M,⟨_,N⟩|⟨g,off,cap,R,rfl,A,J,U,V,K⟩⟩:=p.os
 .omega
 .refine ⟨g,off,cap,rfl,zd A,J,fun j v D=>?_⟩;have E:∀h∈O,h.2.length=64:=fun h L=>(p.good.o64 h L).1;have G:=(qyl.1 D).1;rw[wrC_len,E _ (qyu q)]at G;rw[za A,qXl];exact K _ _ (by rw[RP E q G];exact D)
theorem DvAt.kx(h:DvAt w b vf vo vp F O P)(q:k<F.length):∃g off cap,vf=.slice (some ⟨g,off,none⟩) F.length cap/\g<w.heap.size/\F.length<=cap/\w.rangeAt g (off+k*64) (bkC F[k])/\w.there g (off+k*64) 64:=by
 obtain⟨E,⟨_,G⟩|⟨g,off,cap,J,rfl,p,A,K,L,D⟩⟩:=h.fs
 .omega
 .have:=qXv 64 A;exact⟨g,off,cap,rfl,zd p,A,sL h.good.f64 p D q,TC p q oM⟩
theorem DvAt.setFirm(h:DvAt w b (.slice (some ⟨g,off,none⟩) F.length cap) vo vp F O P)(G:s<F.length){x:Bk}(hx:x.length=64):
  DvAt (w.setCells g (off+s*64) (bkC x)) b (.slice (some ⟨g,off,none⟩) F.length cap) vo vp (F.set s x) O P:=by
 have q:=zo w g (off+s*64) (bkC x);have J:g≠b:=fun e=>h.fb oI;have E:=Sl.row_set h.good.f64 h.fs G hx;rw[qze]at E;have p:(F.set s x).length=F.length:=qze;exact{h with
  str:=(q.block b h.blt (fun e=>J e.symm)).trans h.str
  fs:=by rw[p];exact E
  os:=h.os.keep q (fun A D e=>h.fo A oI D)
  ps:=h.ps.keep q (fun A D e=>h.fp A oI D)
  good:={h.good with f64:=h.good.f64.set s hx,o64:=by rw[p];exact h.good.o64,f1:=by rw[p];exact h.good.f1,fl:=by rw[p];exact h.good.fl}}
theorem DvAt.openNil(h:DvAt w b vf vo vp F O P):DvAt (w.setCell ⟨b,1,none⟩ (.slice none 0 0)) b vf (.slice none 0 0) vp F [] P:=
 {str:=zh h.str 1 _
  fs:=h.fs.kA (zi _ _ _ _) h.fb
  os:=Sl.nil _ _ _
  ps:=h.ps.kA (zi _ _ _ _) h.pb
  good:={h.good with o64:=oe,ol:=by simp}
  fb:=h.fb
  ob:=by simp[Value.ownBlock]
  pb:=h.pb
  fo:=(Dis.nil _ _ _).symm
  fp:=h.fp
  op:=Dis.nil _ _ _}
end
theorem tU{F:List Bk}{O:List (Nat×Bk)}(h:k<O.length):flushF F (O.take (k+1))=(flushF F (O.take k)).set O[k].1 O[k].2:=by
 rw[qXk h,xK]
theorem RQ(s:Int)(x:Bk)(hx:x.length=64):(prog.info? 122).map (·.size)=some (wrC s x).length:=by
 obtain⟨i,z,h,_,_,h1,_⟩:=xr;rw[h,wrC_len,hx,Option.map_some,h1]
theorem zD{o:Nat}{h:List Value}(p:w.cell? ⟨g,o,none⟩=some v)(q:¬g=b):(w.setCells b o' h).cell? ⟨g,o,none⟩=some v:=by
 rw[World.cell?_setCells_out b h o' w _ (fun e _=>absurd e q),p]
theorem AH{L:Nat}{F:List Bk}{O:List (Nat×Bk)}(h:Dv S w b F O P)(D:∀j,w.heap.size<=j->S j)
  (E:w.cell? ⟨L,0,none⟩=some (.pointer (some ⟨b,0,none⟩))) (s0:¬S L):
  Calls prog 60 #[.pointer (some ⟨L,0,none⟩)] w fun e w'=>e=.returned (.tuple #[])/\Dv S w' b (flushF F O) [] P/\Upd S w w':=by
 obtain⟨vf,vo,vp,h,q⟩:=h;obtain⟨-,ay,-⟩:=h.c;obtain⟨ab,W,rfl⟩:=h.os.rd.jW;have az:=h.good.ol;have H:=Y5 h q D E s0;clear h q D;go_enter func60,ntmps60
 go_wp2
 go_loopw[8] (fun i wr=>∃k:Nat,k<=O.length/\i=.int .i64 k/\DvAt wr b vf (.slice ab O.length W) vp (flushF F (O.take k)) O P/\Upd (fun j=>vf.ownBlock=some j\/w.heap.size<=j) w wr)
  (fun i _=>O.length-(intOf i).toNat)
 case atStart=>exact⟨0,qXz _,rfl,H.o.1,Upd.refl _ _⟩
 case round=>
  obtain⟨k,ad,rfl,p,G⟩:=hrel;by_cases hlt:k<O.length
  .obtain ⟨h,q,D,E,s0⟩:=H.o;obtain⟨ae,af,am,J,an,aA,X⟩:=p.opRange hlt;obtain⟨rfl,rfl⟩:ab=some ⟨ae,af,none⟩/\W=am:=by injection J with J _ ao;exact⟨J,ao⟩
   clear J;have ag:=p.good.o64 O[k] (qyu hlt);obtain⟨s,x,Y⟩:∃s x,O[k]=(s,x):=⟨_,_,rfl⟩
   rw[Y]at ag X;have ap:=qqh Y;clear Y;obtain⟨hx,Z⟩:=ag;obtain⟨A,K,a6,J,aq,ar,au,ah⟩:=p.kx Z;have aB:0<=(k:Int)/\(k:Int)<O.length:=⟨oM,oM⟩
   have a7:w.heap.size<=wr.heap.size:=G.size;go_wp2_with (first
    |refine qZa rfl _ _ rfl _ _ rfl _ _ X underlying122 rfl (RQ _ _ hx) ?_
    |(refine zk rfl _ _ _ rfl _ _ _ rfl rfl (by rw[ZC,wrC_len,hx]) (RQ _ _ hx) (uw _ _) ?_)
    |fail)
   rw[zM]at Z J ar;subst J;have a8:Upd (fun _=>False) wr (wr.alloc (.cells (wrC (s:Int) x).toArray 122)):=(Upd.refl _ _).alloc _;have M:=p.new a8;have U:=G.trans (a8.mono fE);have q2:(wr.alloc (.cells (wrC (s:Int) x).toArray 122)).rangeAt wr.heap.size 0 (wrC (s:Int) x):=fun j v hv=>by
    rw[za (zc wr _ rfl)];simpa using hv
   have q1:=q2 0 _ rfl;have aC:(wr.alloc (.cells (wrC (s:Int) x).toArray 122)).rangeAt wr.heap.size 1 (bkC x):=fun j v hv=>by
    have:=q2 (1+j) v ji;rw[qXy]at this;exact this
   have aD:=qYn ah (.cells (wrC (s:Int) x).toArray 122);have av:¬L=A:=fun e=>s0 (q L (.inr (.inl oI)));have aw:=U.jU E (by rintro(e|e);exact av (by simpa[Value.ownBlock]using e.symm);have:=qYh w _ E;simp at this;omega);obtain⟨aE,-,-⟩:=M.c;have aF:¬b=A:=fun e=>p.fb oI;have aG:=underlying54;have aH:=zv x hx;have aI:(bkC x).length=64:=by rw[zn,hx]
   have aJ:=zu x;have ax:0<=(s:Int)/\(s:Int)<F.length:=⟨oM,oM⟩
   have aK:¬wr.heap.size=A:=oM;rw[qXy]at q1;obtain⟨aL,aM⟩:=ax;generalize wr.alloc (.cells (wrC (s:Int) x).toArray 122)=aa at*;have V:=Y5 M U p G a7;clear M U p G a7 a8 q2 q D h ah au X E s0 an aq;generalize wr.heap.size=m at*
   go_region_held3 (fun N=>N.cell? ⟨L,0,none⟩=some (.pointer (some ⟨b,0,none⟩))/\N.cell? ⟨b,0,none⟩=some (.slice (some ⟨A,K,none⟩) F.length a6)/\N.cell? ⟨m,0,none⟩=some (.int .i64 (s:Int))/\N.rangeAt m 1 (bkC x)/\N.there A (K+s*64) 64)
    ((go_split_ands;(simp only[qYk,World.there_drew,qYi]at*);((repeat' constructor)<;>first|assumption|(apply World.there_setCells;assumption)|(refine zD ?_ ?_<;>assumption)|(refine World.rangeAt_setCells_apart jM _ _ _ oM))))
    (fail)
   have ai:DvAt (aa.drew.setCells A (K+s*64) (bkC x)) b (.slice (some ⟨A,K,none⟩) F.length a6) (.slice (some ⟨ae,af,none⟩) O.length W) vp (flushF F (O.take (k+1))) O P:=by
    obtain⟨M,U,p,G,a7⟩:=V.o;have h2:=M.new ((Upd.refl (fun _=>False) _).drew);rw[<-zM F (O.take k)]at h2;have:=h2.setFirm (s:=s) (x:=x) (by rw[zM];exact Z) hx;rw[zM]at this;rw[tU hlt,ap.o];exact this
   have aj:Upd (fun j=>(Value.slice (some ⟨A,K,none⟩) F.length a6).ownBlock=some j\/w.heap.size<=j) w (aa.drew.setCells A (K+s*64) (bkC x)):=
    V.o.2.1.drew.trans ((zo aa.drew A (K+s*64) (bkC x)).mono (fun j _ e=> .inl oI))
   have ak:=Y2 ai aj;clear ai aj;go_wp2
   go_roundw
   case rel=>exact⟨k+1,oM,by go_num,ak.o.1,ak.o.2⟩
   case measure=>simp[intOf];omega
  .obtain rfl:k=O.length:=oM;rw[List.take_length]at p;obtain⟨h,q,D,E,s0⟩:=H.o;have R:Upd S w wr:=G.mono (fun j _ e=>e.elim (fun e=>q j (.inr (.inl e))) (D j));have aw:=R.jU E s0;have q1:=p.fz 1;obtain⟨-,q2,-⟩:=p.c;have V:=Y4 p R q D;clear p R G h q D E s0;go_wp2
   go_end0
   obtain⟨p,R,q,D⟩:=V.o;refine⟨rfl,⟨vf,_,vp,p.openNil,?_⟩,R.trans (Upd.mono (zi _ _ _ _) (fun k _ ad=>ad▸q _ (.inl rfl)))⟩;rintro j (rfl|h|h|h)
   .exact q _ (.inl rfl)
   .exact q _ (.inr (.inl h))
   .cases h
   .exact q _ (.inr (.inr (.inr h)))
def TG(S:Nat->Prop)(w:World)(b:Nat)(F:List Bk)(O:List (Nat×Bk))(P:List Int)(e:Ending)(w':World):Prop:=
 (fate P=1/\e=.returned (.int .i64 21)/\Dv S w' b F O P.tail/\Upd S w w')\/
 (fate P=0/\e=.returned (.int .i64 0)/\Dv S w' b (flushF F O) [] P.tail/\Upd S w w')\/
 (fate P≠0/\fate P≠1/\e=.returned (.int .i64 0)/\Dv S w' b F O P.tail/\Upd S w w')
theorem zcm{F:List Bk}{O:List (Nat×Bk)}(h:Dv S w b F O P)(G:∀j,w.heap.size<=j->S j):
  Calls prog 33 #[.pointer (some ⟨b,0,none⟩)] w (TG S w b F O P):=by
 have a6:=qqf;have H:=Y2 h G;clear h G;go_enter func33,ntmps33
 go_wp2_with fail
 have J:Upd (fun _=>False) w (w.alloc (.cells #[.pointer (some ⟨b,0,none⟩)] 31)):=(Upd.refl _ w).alloc _;have L:(w.alloc (.cells #[.pointer (some ⟨b,0,none⟩)] 31)).cell? ⟨w.heap.size,0,none⟩=some (.pointer (some ⟨b,0,none⟩)):=za (zc w _ rfl) 0;have R:(w.alloc (.cells #[.pointer (some ⟨b,0,none⟩)] 31)).heap.size=w.heap.size+1:=oe;generalize (w.alloc (.cells #[.pointer (some ⟨b,0,none⟩)] 31))=U at J L R⊢;obtain⟨M,G⟩:=H.o;have K:=M.sb;have V:∀j,((S j/\j<w.heap.size)\/w.heap.size+1<=j)->S j:=by
  rintro j (⟨h,-⟩|h)
  .exact h
  .exact G j oM
 have W:Dv (fun j=>(S j/\j<w.heap.size)\/w.heap.size+1<=j) U b F O P:=(M.kw (fun j q Y=> .inl ⟨q,Y⟩)).keep J (fun _ _ h=>h);have E:=Y3 V J K;refine(RM W 21 60 _ (fun X=>Dv (fun j=>(S j/\j<w.heap.size)\/w.heap.size+1<=j) X b (flushF F O) [] P.tail/\Upd (fun j=>(S j/\j<w.heap.size)\/w.heap.size+1<=j) U X) (fun _ _=>rfl) ?_).mono ?_
 .intro a7 w1 Z N;refine(AH Z (fun j q=> .inr (by have:=N.size;omega)) (N.jU L oM) oM).mono ?_;rintro e w' ⟨rfl,A,D⟩;exact⟨rfl,A,(N.mono (fun j _ q=>q▸ .inl ⟨K.1,K.2⟩)).trans D⟩
 .clear W M G J R V L K;rintro e a8 (⟨h1,rfl,A,D⟩|⟨h1,rfl,A,D⟩|⟨h1,h2,rfl,A,D⟩)
  .have p:=Y3 h1 A D;clear h1 A D;go_wp2
   go_ret
   exact .inl ⟨p.out.1,rfl,p.out.2.1.wide E.o.1,(E.o.2.1.mono fE).trans (p.out.2.2.mono (fun j _ q=>q▸E.o.2.2.1))⟩
  .have p:=Y3 h1 A D;clear h1 A D;go_wp2
   go_ret
   exact .inr (.inl ⟨p.out.1,rfl,p.out.2.1.wide E.o.1,(E.o.2.1.mono fE).trans (p.out.2.2.mono (fun j _ q=>E.o.1 j q))⟩)
  .have p:=Y4 h1 h2 A D;clear h1 h2 A D;go_wp2
   go_ret
   exact .inr (.inr ⟨p.out.1,p.out.2.1,rfl,p.out.2.2.1.wide E.o.1,(E.o.2.1.mono fE).trans (p.out.2.2.2.mono (fun j _ q=>q▸E.o.2.2.1))⟩)
theorem wu(a b:Nat)(p:a<4611686018427387904)(q:b<4611686018427387904):bits .xor .i64 (a:Int) (b:Int)=((a^^^b:Nat):Int):=by
 have hx:a^^^b<2^62:=Nat.xor_lt_two_pow oM oM;have h1:(BitVec.ofInt 64 (a:Int)).toNat=a:=by rw[qxm,qxn];exact qXt oM
 have h2:(BitVec.ofInt 64 (b:Int)).toNat=b:=by rw[qxm,qxn];exact qXt oM
 show IntKind.i64.wrap ((BitVec.ofInt 64 (a:Int)^^^BitVec.ofInt 64 (b:Int)).toNat:Int)=_;rw[BitVec.toNat_xor,h1,h2,IntKind.wrap_i64];omega
theorem uy(a b:Nat)(p:a<4611686018427387904)(q:b<4611686018427387904):bits .and .i64 (a:Int) (b:Int)=((a&&&b:Nat):Int):=by
 have hx:a&&&b<2^62:=Nat.and_lt_two_pow _ oM;have h1:(BitVec.ofInt 64 (a:Int)).toNat=a:=by rw[qxm,qxn];exact qXt oM
 have h2:(BitVec.ofInt 64 (b:Int)).toNat=b:=by rw[qxm,qxn];exact qXt oM
 show IntKind.i64.wrap ((BitVec.ofInt 64 (a:Int)&&&BitVec.ofInt 64 (b:Int)).toNat:Int)=_;rw[BitVec.toNat_and,h1,h2,IntKind.wrap_i64];omega
theorem YS(a b:Nat)(p:a<4611686018427387904)(q:b<4611686018427387904):bits .or .i64 (a:Int) (b:Int)=((a|||b:Nat):Int):=by
 have hx:a|||b<2^62:=Nat.or_lt_two_pow oM oM
 have h1:(BitVec.ofInt 64 (a:Int)).toNat=a:=by rw[qxm,qxn];exact qXt oM
 have h2:(BitVec.ofInt 64 (b:Int)).toNat=b:=by rw[qxm,qxn];exact qXt oM
 show IntKind.i64.wrap ((BitVec.ofInt 64 (a:Int)|||BitVec.ofInt 64 (b:Int)).toNat:Int)=_;rw[BitVec.toNat_or,h1,h2,IntKind.wrap_i64];omega
def nibT:List Nat:=[0,274646895,549293790,820201905,1098587580,1361435347,1640403810,1905808397,2197175160,2460548119,2722870694,2987750089,3280807620,3553878443,3811616794,4084100981]
def nibC(i:Nat):Nat:=nibT.getD i 0
theorem Uv(i:Nat):nibC i<4294967296:=by
 unfold nibC nibT;by_cases h:i<16
 .have:i=0\/i=1\/i=2\/i=3\/i=4\/i=5\/i=6\/i=7\/i=8\/i=9\/i=10\/i=11\/i=12\/i=13\/i=14\/i=15:=oM;rcases this with rfl|rfl|rfl|rfl|rfl|rfl|rfl|rfl|rfl|rfl|rfl|rfl|rfl|rfl|rfl|rfl<;>decide
 .rw [qyf,qyk og];decide
def stepC(s f:Nat):Nat:=(s/16)^^^nibC ((s^^^f)&&&15)
theorem qL{f:Nat}(h:s<4294967296):stepC s f<4294967296:=by
 unfold stepC;exact Nat.xor_lt_two_pow (n:=32) oM (Uv _)
def Uw(s:Nat)(b:UInt8):Nat:=stepC (stepC s (b.toNat&&&15)) (b.toNat/16)
theorem byteC_lt{b:UInt8}(h:s<4294967296):Uw s b<4294967296:=qL (qL h)
def sumC(xs:List UInt8):Nat:=xs.foldl Uw 4294967295
theorem TH(xs:List UInt8)(b:UInt8):sumC (xs++[b])=Uw (sumC xs) b:=by simp[sumC]
theorem ZD(xs:List UInt8):sumC xs<4294967296:=by
 have:∀(xs:List UInt8) (s:Nat),s<4294967296->xs.foldl Uw s<4294967296:=by
  intro xs
  induction xs with
  |nil=>intro s h;exact h
  |cons b xs p=>intro s h;exact p _ (byteC_lt h)
 exact this xs _ oM
def crcC(xs:List UInt8):Nat:=sumC xs^^^4294967295
theorem ZE(xs:List UInt8):crcC xs<4294967296:=Nat.xor_lt_two_pow (n:=32) (ZD xs) de
def lowB(n:Nat):Nat->List UInt8
 |0=>[]
 |k+1=>UInt8.ofNat n::lowB (n/256) k
theorem zY(n k:Nat):(lowB n k).length=k:=by
 induction k generalizing n with
 |zero=>rfl
 |succ k h=>simp[lowB,h]
def numB:List UInt8->Nat
 |[]=>0
 |b::l=>b.toNat+256*numB l
theorem YT(n k:Nat)(h:n<256^k):numB (lowB n k)=n:=by
 induction k generalizing n with
 |zero=>simp at h;subst h;rfl
 |succ k p=>
  simp only[lowB,numB];rw[p (n/256) (by rw[Nat.div_lt_iff_lt_mul oM];rw[Nat.pow_succ]at h;exact h)];have:(UInt8.ofNat n).toNat=n%256:=oe;rw[this];omega
def sealB(b:Bk):Bk:=b.take 60++lowB (crcC (b.take 60)) 4
theorem vC{b:Bk}(h:b.length=64):(sealB b).length=64:=by simp[sealB,zY,h]
theorem WQ{b:Bk}(h:b.length=64):(sealB b).take 60=b.take 60:=by
 exact List.take_left' (by simp[h])
theorem WR{b:Bk}(h:b.length=64):sealB (sealB b)=sealB b:=by
 show(sealB b).take 60++_=_;rw[WQ h];rfl
theorem vS:∀(xs h:List Int),xs.length=h.length->((List.range xs.length).all fun i=>xs.getD i 0==h.getD i 0)=(xs==h)
 |[],[],_=>rfl
 |x::xs,y::h,p=>by
  have q:=vS xs h (by simpa using p);rw[qyz,List.range_succ_eq_map,List.all_cons,List.all_map];simp only[List.getD_cons_zero,Function.comp_def,List.getD_cons_succ,q];simp[List.cons_beq_cons]
 |[],_::_,p=>by simp at p
 |_::_,[],p=>by simp at p
section
variable{P:Program}(w:World)
theorem tt(d:Nat)(t e:TypeId)(n:Nat)(E:P.underlying t=some (.array n e))(q:P.underlying e=some (.int .i64))(G:∀w,(sizeOf e).run P w=.ok 1 w)
  (xs p:List Int) (hx:xs.length=n) (hy:p.length=n):
  (Op.equalIn (d+2) t (.agg (ints xs).toArray) (.agg (ints p).toArray)).run P w=.ok (xs==p) w:=by
 rw[<-vS xs p (hx.trans hy.symm),hx,List.range_eq_range',Op.equalIn];simp only[qYg,qYx E,qYf,G,Std.Legacy.Range.forIn_eq_forIn_range',Std.Legacy.Range.size,Nat.sub_zero,Nat.add_sub_cancel,Nat.div_one];have A:∀i∈List.range' 0 n 1,i<n:=fun i D=>by simpa using(List.mem_range'_1.1 D).2
 generalize List.range' 0 n 1=l at A⊢
 induction l with
 |nil=>simp
 |cons i l J=>
  have D:i<n:=A i oe;have K:(part e (ints xs).toArray (i*1)).run P w=.ok (.int .i64 (xs.getD i 0)) w:=by
   simp[ints,part,isAgg,run_underlying q,List.getD,List.getElem?_eq_getElem (show i<xs.length by omega)]
  have L:(part e (ints p).toArray (i*1)).run P w=.ok (.int .i64 (p.getD i 0)) w:=by
   simp[ints,part,isAgg,run_underlying q,List.getD,List.getElem?_eq_getElem (show i<p.length by omega)]
  have M:(Op.equalIn (d+1) e (.int .i64 (xs.getD i 0)) (.int .i64 (p.getD i 0))).run P w=.ok (xs.getD i 0==p.getD i 0) w:=by
   rw[run_equalIn_int w d e .i64 .i64 _ _ q]
  simp only[List.forIn_cons,qYg,K,L,M,qYf,List.all_cons];cases R:(xs.getD i 0==p.getD i 0)
  .simp
  .simp only[Bool.not_true,Bool.false_eq_true,if_false,Sem.run_pure,qYf,qxp];exact J fun j N=>A j (by simp[N])
theorem ZF(t e:TypeId)(n:Nat)(p:P.underlying t=some (.array n e))(q:P.underlying e=some (.int .i64))(A:∀w,(sizeOf e).run P w=.ok 1 w)
  (xs h:List Int) (hx:xs.length=n) (hy:h.length=n):
  (binOp .eql t (.agg (ints xs).toArray) (.agg (ints h).toArray)).run P w=.ok (.bool (xs==h)) w:=by
 rw[run_eql_struct,tt w 9998 t e n p q A xs h hx hy];rfl
end
theorem RR(w:World):(sizeOf 5).run prog w=.ok 1 w:=by
 obtain⟨i,h,p⟩:=qYc.1 (show(prog.info? 5).map (·.size)=some 1 by kernel_rfl);simp[sizeOf,typeInfo,h,p]
theorem WS(x y:Bk)(hx:x.length=64)(hy:y.length=64)(w:World):(binOp .eql 54 (.agg (bkC x).toArray) (.agg (bkC y).toArray)).run prog w=.ok (.bool (x==y)) w:=
 run_eql_bytes w 54 5 64 underlying54 underlying5 RR x y hx hy
theorem WT(x y:Bk)(hx:x.length=64)(hy:y.length=64)(w:World):(binOp .neq 54 (.agg (bkC x).toArray) (.agg (bkC y).toArray)).run prog w=.ok (.bool (!(x==y))) w:=by
 have e:(Op.equalIn 10000 54 (.agg (bkC x).toArray) (.agg (bkC y).toArray)).run prog w=.ok (x==y) w:=run_equalIn_bytes w 9998 54 5 64 underlying54 underlying5 RR x y hx hy;rw[run_neq_struct,e];rfl
abbrev ue(b s j:Int):Value:=.agg #[.int .i64 b,.int .i64 s,.int .i64 j]
theorem qqu{o:Obj}(h:w1=w.alloc o):Upd (fun _=>False) w w1:=by rw[h];exact (Upd.refl _ w).alloc _
theorem qqb(h:Below w.heap.size w w1):Upd (fun _=>False) w w1:=Upd.of_below h
theorem qqg{o:Obj}(h:w1=w.alloc o):w1.heap[w.heap.size]?=some o:=by rw[h];exact zc w _ rfl
theorem uur:type_of% @Upd.refl:=@Upd.refl
theorem uuo:type_of% @Upd.of_below:=@Upd.of_below
end Go.Proofs.YtbnpkobbnjihjaaGreatDoor
