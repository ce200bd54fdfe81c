/- Words on world -/
import Derived.Test.YtpejdgiccaijfaaGreatDoorG00
import Derived.WalkKit
import Derived.ProofKit
import Derived.OpenShut
import Derived.Handy
import Derived.Deep.QuietTactic
import Derived.BigQuiet
import Derived.StillTailTactics
import Derived.Lib.Hide
import Derived.Deep.LoopGhost
import Derived.Deep.DeepCutAuto
import Derived.Deep.RegionHeld3
import Derived.Deep.MidRow
import Derived.Deep.RegionWith
import Derived.WalkSpells
import Derived.WalkMore
import Derived.Test.YtpejdgiccaijfaaGreatDoorProg
import Derived.Stop.BytesEq
import Derived.Laws.ResultCell
import Derived.Great.BuildSlice
import Derived.Deep.DrawnRows
import Derived.Laws.Bits64b
import Derived.Defers
import Derived.Recover
set_option maxRecDepth 100000
set_option maxHeartbeats 1000000
namespace Go.Proofs.YtpejdgiccaijfaaGreatDoor
open Go Go.RowKit Tryz
variable{w w' a w1:World}{S S':Nat->Prop}{b g n k B off s:Nat}{v u v':Value}{P:List Int}{e T ty:TypeId}{xs cs:List Value}
structure Upd(S:Nat->Prop)(w w':World):Prop where
 os:w'.os=w.os
 tape:w'.tape=w.tape
 output:w'.output=w.output
 size:w.heap.size<=w'.heap.size
 block:∀k,k<w.heap.size->¬S k->w'.heap[k]?=w.heap[k]?
namespace Upd
theorem refl(S:Nat->Prop)(w:World):Upd S w w:=⟨rfl,rfl,rfl,qXp _,fun _ _ _=>rfl⟩
theorem trans{b c:World}(h:Upd S a b)(k:Upd S b c):Upd S a c:=
 ⟨k.os.trans h.os,k.tape.trans h.tape,k.output.trans h.output,qXr h.size k.size,
  fun i j p=>(k.block i (qXs j h.size) p).trans (h.block i j p)⟩
theorem mono{b:World}(h:Upd S a b)(p:∀k,k<a.heap.size->S k->S' k):Upd S' a b:=
 ⟨h.os,h.tape,h.output,h.size,fun i j q=>h.block i j fun A=>q (p i j A)⟩
theorem drew(h:Upd S a w):Upd S a w.drew:=⟨h.os,h.tape,h.output,h.size,h.block⟩
theorem drewN(h:Upd S a w)(n:Nat):Upd S a (w.drewN n):=⟨h.os,h.tape,h.output,h.size,h.block⟩
theorem alloc(h:Upd S a w)(o:Obj):Upd S a (w.alloc o):=
 h.trans ⟨rfl,rfl,rfl,oe,fun k j _=>qxk _ _ _ j⟩
theorem setCell(h:Upd S a w)(p:Addr)(A:p.block<a.heap.size->S p.block)(u:Value):Upd S a (w.setCell p u):=
 ⟨h.os,h.tape,h.output,by simpa using h.size,fun k j q=>by
  rw[Below.heap_setCell]
  .exact h.block k j q
  .rintro rfl;exact q (A j)⟩
theorem below(h:Upd (fun _=>False) a w):Below a.heap.size a w:=
 ⟨h.os,h.tape,h.output,h.size,fun k j=>h.block k j id⟩
theorem of_below(h:Below a.heap.size a w):Upd S a w:=
 ⟨h.os,h.tape,h.output,h.size,fun k j _=>h.block k j⟩
theorem new(h:Upd S' a w)(k:Upd S w w')(q:∀i,i<a.heap.size->S i->S' i):Upd S' a w':=
 ⟨k.os.trans h.os,k.tape.trans h.tape,k.output.trans h.output,qXr h.size k.size,
  fun i j p=>(k.block i (qXs j h.size) fun A=>p (q i j A)).trans (h.block i j p)⟩
theorem cell(h:Upd S w w'){p:Addr}(j:p.block<w.heap.size)(q:¬S p.block):w'.cell? p=w.cell? p:=
 World.cell?_of_block (w:=w) (h.block p.block j q)
theorem frozen(h:Upd S w w'){p:Addr}(j:p.block<w.heap.size)(q:¬S p.block):w'.frozen? p=w.frozen? p:=
 World.frozen?_of_block (w:=w) (h.block p.block j q)
theorem cellAt(h:Upd S w w'){o:Nat}(j:b<w.heap.size)(q:¬S b):w'.cell? ⟨b,o,none⟩=w.cell? ⟨b,o,none⟩:=h.cell (p:=⟨b,o,none⟩) j q
theorem frozenAt(h:Upd S w w'){o:Nat}(j:b<w.heap.size)(q:¬S b):w'.frozen? ⟨b,o,none⟩=w.frozen? ⟨b,o,none⟩:=h.frozen (p:=⟨b,o,none⟩) j q
theorem lt(h:Upd S w w')(j:k<w.heap.size):k<w'.heap.size:=qXs j h.size
end Upd
theorem zd{o:Obj}(h:w.heap[b]?=some o):b<w.heap.size:=(Array.getElem?_eq_some_iff.1 h).1
theorem za{cs:Array Value}{fz:Nat×Nat}(h:w.heap[b]?=some (.cells cs T fz))(i:Nat):w.cell? ⟨b,i,none⟩=cs[i]?:=by
 simp[World.cell?,h]
theorem zf{cs:Array Value}(h:w.heap[b]?=some (.cells cs T (0,0)))(i:Nat):w.frozen? ⟨b,i,none⟩=false:=by
 simp[World.frozen?,h]
theorem zh{cs:Array Value}{fz:Nat×Nat}(h:w.heap[b]?=some (.cells cs T fz))(i:Nat)(u:Value):
  (w.setCell ⟨b,i,none⟩ u).heap[b]?=some (.cells (cs.setIfInBounds i u) T fz):=by
 simp[World.setCell,Array.getElem?_modify,h]
theorem zc(w:World)(o:Obj)(h:n=w.heap.size):(w.alloc o).heap[n]?=some o:=by
 subst h;show(w.heap.push o)[w.heap.size]?=_;simp
def Wl(_:List Nat)(G:Prop):Prop:=G
namespace Wl
theorem i{G:Prop}(l:List Nat)(h:Wl l G):G:=h
theorem o{G:Prop}(h:G):Wl [] G:=h
section
variable{P:Program}{md:Region.Mode}{ops:Array Oper}{Q:Exit->Act->World->Prop}{S:World->Prop}{k:Nat}{oi:Oper}{v:Value}{fuel:Nat}{listed:Array Bool}{a a':Act}{w:World}{ks:List Nat}
theorem t(j:S w)(h:Wl ks (wpAnyH P md ops Q S fuel (listed.setIfInBounds k true) a' w))(p:ops[k]?=some oi:=by rfl)(q:Region.noSelect ops=true:=by kernel_rfl)(A:Region.free md ops listed k=true:=by kernel_rfl)
  (D:(Region.ready md ops listed).contains k=true:=by kernel_rfl) (E:∀c a w,Q (.panic c) (a.put oi.dst v) w->Q (.panic c) a w:=by exact fun _ _ _ h=>h)
  (hy:YieldsIf P ops S oi v a:=by first|(refine Or.inr ⟨?_,rfl⟩;rfl)|(refine Or.inl ⟨?_,?_⟩;rfl;intro J G;(try dsimp only at G);(try go_split_ands);go_simp;(try with_reducible rfl)))
  (H:a.put oi.dst v=a':=by simp only[qyy,qys,qyt,Act.put,qXe,qXh,qXg];rfl):Wl (k::ks) (wpAnyH P md ops Q S (fuel+1) listed a w):=
 qYy p q A D E hy j (H▸h)
theorem l(k:Nat){x:Operand}{o:Nat}{d:TypeDesc}(j:∀w,S w->w.rangeAt b o cs)(hu:P.underlying ty=some d)(p:(P.info? ty).map (·.size)=some cs.length)(q:S w)
  (h:wpAnyH P md ops Q S fuel (listed.setIfInBounds k true) a' w) (A:ops[k]?=some oi:=by rfl) (D:Region.noSelect ops=true:=by kernel_rfl) (E:Region.free md ops listed k=true:=by kernel_rfl)
  (G:(Region.ready md ops listed).contains k=true:=by kernel_rfl) (H:∀c a w,Q (.panic c) (a.put oi.dst (.agg cs.toArray)) w->Q (.panic c) a w:=by exact fun _ _ _ h=>h)
  (J:Region.wanted oi (yielded ops a.tmps)=true:=by rfl) (L:oi.op=.load ty x:=by rfl) (hx:a.eval x=.pointer (some ⟨b,o,none⟩):=by rfl) (M:d.isRow=true:=by rfl)
  (N:a.put oi.dst (.agg cs.toArray)=a':=by simp only[qyy,qys,qyt,Act.put,qXe,qXh,qXg];rfl):wpAnyH P md ops Q S (fuel+1) listed a w:=
 qYy A D E G H (qZe J ty x L b o hx cs d j hu M p) q (N▸h)
theorem r(k:Nat)(h:∀j:Act->World->Prop,Shut (∀a w,S w->(S w->wpAnyH P md ops Q S fuel (listed.setIfInBounds k true) a w)->j a w)->if Region.wanted oi (yielded ops a.tmps)=true then Oper.wp P oi a w j Q else j (a.put oi.dst undef) w)
  (p:ops[k]?=some oi:=by rfl) (q:Region.ready md ops listed=[k]:=by kernel_rfl):wpAnyH P md ops Q S (fuel+1) listed a w:=
 qYx q oe (qxb p h qxc)
theorem d(h:Q .normal a w)(j:Region.ready md ops listed=[]:=by kernel_rfl):wpAnyH P md ops Q S fuel listed a w:=wpAnyH_done j h _
end
end Wl
def Sl(w:World)(e:TypeId)(k:Nat)(v:Value)(n:Nat)(xs:List Value):Prop:=
 xs.length=n*k/\((v=.slice none 0 0/\n=0)\/
  ∃g off cap cur,v=.slice (some ⟨g,off,none⟩) n cap/\w.heap[g]?=some (.cells cur e (0,0))/\n<=cap/\cap<=maxLen/\off+cap*k<=cur.size/\
   ∀j u,xs[j]?=some u->cur[off+j]?=some u)
def Rd(w:World)(k:Nat)(v:Value)(n:Nat)(xs:List Value):Prop:=
 xs.length=n*k/\n<=maxLen/\∃ao cap,v=.slice ao n cap/\(ao=none->n=0)/\∀b,ao=some b->∀j u,xs[j]?=some u->w.cell? (b.add j)=some u
section
variable{w w':World}{e:TypeId}{k n:Nat}{v:Value}{xs:List Value}
theorem Sl.nil(w:World)(e:TypeId)(k:Nat):Sl w e k (.slice none 0 0) 0 []:=⟨oe,.inl ⟨rfl,rfl⟩⟩
theorem Sl.rd(h:Sl w e k v n xs):Rd w k v n xs:=by
 obtain⟨p,⟨rfl,rfl⟩|⟨g,off,q,L,rfl,A,D,E,M,G⟩⟩:=h
 .exact ⟨p,qXz _,none,0,rfl,fun _=>rfl,fun b j=>by cases j⟩
 .refine ⟨p,qXr D E,some ⟨g,off,none⟩,q,rfl,(fun h=>by cases h),(fun b j=>?_)⟩;cases j;intro H u J;rw[qxa,za A];exact G H u J
theorem Rd.le(h:Rd w k v n xs):n<=maxLen:=h.2.1
theorem Sl.le(h:Sl w e k v n xs):n<=maxLen:=h.rd.le
theorem Sl.lt(j:Sl w e k v n xs)(h:v.ownBlock=some g):g<w.heap.size:=by
 obtain⟨_,⟨rfl,rfl⟩|⟨q,off,A,D,rfl,p,_⟩⟩:=j
 .simp [Value.ownBlock]at h
 .simp [Value.ownBlock]at h;subst h;exact zd p
theorem Sl.keep(h:Sl w e k v n xs)(hu:Upd S w w')(p:∀g,v.ownBlock=some g->¬S g):Sl w' e k v n xs:=by
 refine⟨h.1,?_⟩;rcases h.2 with q|⟨g,off,A,D,rfl,j,rest⟩
 .exact .inl q
 .exact .inr ⟨g,off,A,D,rfl,(hu.block g (zd j) (p g rfl)).trans j,rest⟩
theorem Sl.same(h:Sl w e k v n xs)(j:∀g,v.ownBlock=some g->w'.heap[g]?=w.heap[g]?):Sl w' e k v n xs:=by
 refine⟨h.1,?_⟩;rcases h.2 with p|⟨g,off,q,A,rfl,D,rest⟩
 .exact .inl p
 .exact .inr ⟨g,off,q,A,rfl,(j g rfl).trans D,rest⟩
theorem zE{a:Addr}(h:w.cell? a=some u):a.spot=none/\a.block<w.heap.size:=by
 refine⟨?_,qYh w a h⟩;unfold World.cell? at h;split at h
 .split at h
  .cases h
  .rename_i j;simpa using j
 .cases h
theorem Rd.keep(p:Rd w k v n xs)(hu:Upd S w w')(q:∀g,v.ownBlock=some g->¬S g):Rd w' k v n xs:=by
 obtain⟨A,D,E,G,rfl,H,J⟩:=p;refine⟨A,D,E,G,rfl,H,fun b h j u L=>?_⟩;have h1:=J b h j u L;have M:(b.add j).block=b.block:=by unfold Addr.add;split<;>rfl
 subst h;rw[hu.cell (zE h1).2 (by rw[M];exact q b.block rfl)];exact h1
theorem Rd.j6(p:Rd w k v n xs):∃h j,v=.slice h n j:=by obtain⟨_,_,h,j,rfl,_⟩:=p;exact⟨h,j,rfl⟩
theorem Rd.at(D:Rd w k v n xs)(E:0<n)(G:0<k:=by decide):∃bl off p,v=.slice (some ⟨bl,off,none⟩) n p/\bl<w.heap.size/\∀h u,xs[h]?=some u->w.cell? ⟨bl,off+h,none⟩=some u:=by
 obtain⟨H,V,J,p,rfl,L,j⟩:=D;cases J with
 |none=>have:=L rfl;omega
 |some b=>
  have j:=j b rfl;have hx:0<xs.length:=by rw[H];exact Nat.mul_pos E G
  obtain⟨q,A⟩:=zE (j 0 _ (qyk hx));obtain⟨bl,off,M⟩:=b;have N:M=none:=by unfold Addr.add at q;split at q<;>simp_all
  subst N;rw[qxa]at A;exact⟨bl,off,p,rfl,A,fun h u U=>by have:=j h u U;rwa[qxa]at this⟩
theorem Sl.at(q:Sl w e k v n xs)(G:0<n):∃g off j h,v=.slice (some ⟨g,off,none⟩) n j/\w.heap[g]?=some (.cells h e (0,0))/\off+n*k<=h.size/\∀p u,xs[p]?=some u->h[off+p]?=some u:=by
 obtain⟨H,⟨rfl,rfl⟩|⟨g,off,j,h,rfl,A,D,J,L,E⟩⟩:=q
 .omega
 .exact ⟨g,off,j,h,rfl,A,by have:=qXv k D;omega,E⟩
theorem zy:∀(p:List Value) (o:Nat) (w:World) (b:Nat) (j:Array Value) (T:TypeId) (fz:Nat×Nat),w.heap[b]?=some (.cells j T fz)->
  ∃q,(w.setCells b o p).heap[b]?=some (.cells q T fz)/\q.size=j.size/\∀i,q[i]?=if o<=i/\i<o+p.length/\i<j.size then p[i-o]? else j[i]?:=by
 intro p
 induction p with
 |nil=>intro o w b j T fz h;exact⟨j,h,rfl,fun i=>by rw[if_neg og]⟩
 |cons v p G=>
  intro o w b j T fz h;have h1:=zh h o v;obtain⟨q,h2,H,J⟩:=G (o+1) (w.setCell ⟨b,o,none⟩ v) b _ T fz h1;refine⟨q,h2,by simpa using H,fun i=>?_⟩;rw[J];by_cases E:o=i
  .subst E;rw[if_neg oM];by_cases D:o<j.size
   .rw [if_pos ⟨oM,oe,D⟩];simp[D]
   .rw [if_neg oM];simp[D]
  .by_cases A:o+1<=i/\i<o+1+p.length/\i<j.size
   .rw [if_pos (by simpa using A),if_pos ⟨oM,by simp;omega,A.2.2⟩];have:i-o=(i-(o+1))+1:=oM;rw[this,List.getElem?_cons_succ]
   .rw [if_neg (by simpa using A),if_neg (by simp at A⊢;omega)];rw[qxg E]
theorem ym(S:Nat->Prop)(w:World)(b o:Nat)(h:List Value)(p:S b):Upd S w (w.setCells b o h):=by
 have:∀(h:List Value) (o:Nat) (a w:World),Upd S a w->Upd S a (w.setCells b o h):=by
  intro h
  induction h with
  |nil=>intro o a w j;exact j
  |cons v h q=>intro o a w j;exact q _ _ _ (j.setCell ⟨b,o,none⟩ (fun _=>p) v)
 exact this h o w w (Upd.refl _ _)
theorem Upd.kC{j:Option Nat}(h:w.grownBy w' j)(A:∀g,j=some g->g<w.heap.size->S g):Upd S w w':=
 ⟨h.os,h.tape,h.output,h.size,fun p q D=>h.block p q (fun e=>D (A p e.symm q))⟩
theorem Sl.of_own{base:Nat}(h:w.ownsRow base e k v n xs):Sl w e k v n xs:=by
 refine⟨h.1,?_⟩;rcases h.2 with p|⟨g,q,A,rfl,J,D,E,G,L,H⟩
 .exact .inl p
 .refine .inr ⟨g,0,q,A,rfl,D,E,G,oM,fun M u j=>?_⟩;rw[<-H,qyq]at j;split at j
  .simpa using j
  .cases j
def ownS(v:Value):Nat->Prop:=fun g=>v.ownBlock=some g
def From(B:Nat)(v:Value):Prop:=∀g,v.ownBlock=some g->B<=g
theorem From.nil(B n c:Nat):From B (.slice none n c):=fun g h=>by cases h
theorem From.mono{h:Nat}(j:From B v)(p:h<=B):From h v:=fun g q=>qXr p (j g q)
theorem From.own(h:From B v):∀k,ownS v k->B<=k:=h
def blockFrom(w:World)(v v':Value):Prop:=v'.ownBlock=v.ownBlock\/∃g,v'.ownBlock=some g/\w.heap.size<=g
theorem Zcg011{P:Prop}(h:P:=by
  refine h v' w' (Sl.of_own E) (Upd.kC aa (fun g j _=>by cases j)) ?_;rcases E.2 with⟨rfl,az⟩|⟨ab,aA,ad,rfl,ae,_⟩
  .omega
  .exact .inr ⟨ab,rfl,ae⟩):P:=h
theorem Zcg013{P:Prop}(h:P:=by
  simp[Builtin.append_,run_underlying A,sizeOf,typeInfo,D,Builtin.lenOf,Builtin.firstCells,loadCells,loadCellsFrom]):P:=h
theorem zJ{P:Program}{ops:Array Oper}{rest:List Oper}{o:Oper}{a:Act}{Q:Exit->Act->World->Prop}(G:o.guard=none)(s x:Operand)(t:TypeId)
  (H:o.op=.call {callee:=.builtin .append,args:= #[s,x],argTypes:= #[t,t]})
  (i:TypeInfo) (z:Value) (J:Nat) (A:P.underlying t=some (.slice e)) (D:P.info? e=some i) (af:i.zero=some z)
  (ag:i.size=k) (ah:i.bytes=J) (ai:z.cells.size=k) (aj:0<k)
  (L:a.eval s=v) (M:Sl w e k v n xs)
  (x':Value) (m:Nat) (news:List Value) (hx:a.eval x=x') (aq:Rd w k x' m news) (h1:∀u∈news,u.oneCell'=true)
  (ak:n+m<=maxLen) (am:(n+m)*J<=140737488355328)
  (h:∀v' w',Sl w' e k v' (n+m) (xs++news)->Upd (ownS v) w w'->blockFrom w v v'->wpList P ops Q rest (a.put o.dst v') w'):wpList P ops Q (o::rest) a w:=by
 obtain⟨hnl,aF,ar,N,rfl,au,av⟩:=aq;cases ar with
 |none=>
  have W:=au rfl;subst W;obtain rfl:news=[]:=qyc kf;have X:(Builtin.append_ #[t,t] o.type #[v,.slice none 0 N]).run P w=.ok v w:=by
   obtain⟨_,⟨rfl,rfl⟩|⟨g,off,Y,Z,rfl,j,an,ao,aw,a6⟩⟩:=M
   .simp [Builtin.append_,run_underlying A,sizeOf,typeInfo,D,Builtin.lenOf,Builtin.firstCells]
   .simp [Builtin.append_,run_underlying A,sizeOf,typeInfo,D,Builtin.lenOf,Builtin.firstCells,an,storeCells]
  refine qZa G fun K a7=>?_;unfold Oper.wp;simp[execOp,H,resolve,invoke,builtin,L,hx,X,Result.andThen];exact a7 _ _ (h v w (by simpa using M) (Upd.refl _ _) (.inl rfl))
 |some U=>
 have ap:=av U rfl;have ax:=M;obtain⟨a8,⟨rfl,rfl⟩|⟨g,off,Y,Z,rfl,j,an,ao,aw,a6⟩⟩:=M
 .obtain rfl:xs=[]:=qyc (by simpa using a8);by_cases W:m=0
  .subst W;obtain rfl:news=[]:=qyc kf;have X:(Builtin.append_ #[t,t] o.type #[.slice none 0 0,.slice (some U) 0 N]).run P w=.ok (.slice none 0 0) w:=by
    exact Zcg013
   refine qZa G fun K a7=>?_;unfold Oper.wp;simp[execOp,H,resolve,invoke,builtin,L,hx,X,Result.andThen];exact a7 _ _ (h _ w (by simpa using ax) (Upd.refl _ _) (.inl rfl))
  .refine wpList_append_grows w G s x t H e i z k J A D af ag ah ai aj none 0 0 [] L (fun _=>⟨rfl,rfl⟩) oe (fun b ay=>by cases ay) U m N news hx hnl ap h1 oM ak am ?_;intro v' w' E aa;exact Zcg011
 .refine wpList_append_arg w G s x t H e i z k J A D af ag ah ai aj g off n Y xs L a8 (fun p u q=>by rw[za j];exact a6 p u q) U m N news hx hnl ap h1 ?_ ak am ?_ ?_
  .intro V p q;have aB:off+n*k+p<Z.size:=by
    have:=qXv k V;rw[Nat.add_mul]at this;omega
   exact⟨by rw[za j];simp[aB],zf j _⟩
  .intro V;obtain⟨ad,h2,aG,aC⟩:=zy news (off+n*k) w g Z e (0,0) j;have aD:=qXv k V;rw[Nat.add_mul]at aD;refine h _ _ ⟨by rw[qyz,a8,hnl,Nat.add_mul],.inr ⟨g,off,Y,ad,rfl,h2,V,ao,oM,fun p u q=>?_⟩⟩ (ym _ w g _ news rfl) (.inl rfl);rw[aC];by_cases aE:p<xs.length
   .rw [qyh aE]at q;rw[if_neg oM];exact a6 p u q
   .rw [qyi oM]at q;have hlt:=(qym.1 q).1;rw[if_pos ⟨oM,oM,oM⟩];have:off+p-(off+n*k)=p-xs.length:=oM;rw[this];exact q
  .intro aH v' w' E aa;exact Zcg011
theorem Rd.fresh(w:World)(news:List Value)(e:TypeId){m:Nat}(c:Nat)(h:news.length=m*k)(j:m<=maxLen):Rd (w.alloc (.cells news.toArray e)) k (.slice (some ⟨w.heap.size,0,none⟩) m c) m news:=by
 refine⟨h,j,some ⟨w.heap.size,0,none⟩,c,rfl,(fun p=>by cases p),(fun b q=>?_)⟩;cases q;intro D u A;rw[qxa,za (zc _ _ rfl)];simpa using A
theorem blockFrom.ge(h:blockFrom w v v')(p:B<=w.heap.size)(hv:From B v):From B v':=by
 intro g j;rcases h with h|⟨q,h,A⟩
 .exact hv g (by rw[<-h];exact j)
 .rw [h]at j;cases j;omega
theorem zK{P:Program}{ops:Array Oper}{rest:List Oper}{o:Oper}{a:Act}{Q:Exit->Act->World->Prop}(q:o.guard=none)(s x:Operand)(t:TypeId)
  (A:o.op=.call {callee:=.builtin .append,args:= #[s,x],argTypes:= #[t,t]})
  (i:TypeInfo) (z:Value) (p:Nat) (D:P.underlying t=some (.slice e)) (E:P.info? e=some i) (G:i.zero=some z)
  (H:i.size=k) (J:i.bytes=p) (L:z.cells.size=k) (M:0<k)
  (N:a.eval s=v) (U:Sl w e k v n xs) (news:List Value) (hx:a.eval x=.slice (some ⟨w.heap.size,0,none⟩) 1 1) (Z:news.length=k) (h1:∀u∈news,u.oneCell'=true)
  (V:n+1<=maxLen) (W:(n+1)*p<=140737488355328)
  (h:∀v' w',Sl w' e k v' (n+1) (xs++news)->Upd (ownS v) w w'->blockFrom w v v'->wpList P ops Q rest (a.put o.dst v') w'):
  wpList P ops Q (o::rest) a (w.alloc (.cells news.toArray e)):=by
 refine zJ q s x t A i z p D E G H J L M N (U.keep ((Upd.refl (fun _=>False) w).alloc _) (fun _ _ h=>h)) _ 1 news hx (Rd.fresh w news e 1 oM oj) h1 V W ?_;intro v' w' h2 X j;refine h v' w' h2 (Upd.new ((Upd.refl _ _).alloc _) X (fun i _ h=>h)) ?_;rcases j with j|⟨g,j,Y⟩
 .exact .inl j
 .exact .inr ⟨g,j,by simp at Y;omega⟩
theorem Rd.below(h:Rd w k v n xs)(j:Below w.heap.size w w'):Rd w' k v n xs:=h.keep (Upd.of_below (S:=fun _=>False) j) (fun _ _ h=>h)
theorem zj(h:Below B a w)(hu:Upd S w w')(A:B<=a.heap.size)(j:∀k,S k->B<=k):Below B a w':=
 ⟨hu.os.trans h.os,hu.tape.trans h.tape,hu.output.trans h.output,qXr h.size hu.size,fun k p=>(hu.block k (by have:=h.size;omega) (fun q=>by have:=j k q;omega)).trans (h.block k p)⟩
theorem zP(h:Below B a w)(n:Nat):Below B a (w.drewN n):=⟨h.os,h.tape,h.output,h.size,h.block⟩
def Dis(v u:Value):Prop:=∀g,v.ownBlock=some g->u.ownBlock=some g->False
theorem Dis.symm(h:Dis v u):Dis u v:=fun g h1 h2=>h g h2 h1
theorem Dis.nil(n c:Nat)(u:Value):Dis (.slice none n c) u:=fun g h=>by cases h
theorem Dis.from(j:Dis v u)(h:blockFrom w v v')(hu:∀g,u.ownBlock=some g->g<w.heap.size):Dis v' u:=by
 intro g h1 h2;rcases h with h|⟨p,h,q⟩
 .exact j g (by rw[<-h];exact h1) h2
 .rw [h]at h1;cases h1;have:=hu g h2;omega
theorem Sl.kO(h:Sl w e k v n xs)(j:Dis v u)(hu:Upd (ownS u) w w'):Sl w' e k v n xs:=
 h.keep hu (fun g p q=>j g p q)
theorem Sl.tail{cap:Nat}{x:Value}(h:Sl w e 1 (.slice (some ⟨g,off,none⟩) (n+1) cap) (n+1) (x::xs)):
  Sl w e 1 (.slice (some ⟨g,off+1,none⟩) n (cap-1)) n xs/\(cap=1->Sl w e 1 (.slice (some ⟨g,off,none⟩) n 0) n xs)/\1<=cap:=by
 obtain⟨A,⟨h1,_⟩|⟨E,G,H,j,h1,p,J,L,M,D⟩⟩:=h
 .cases h1
 .cases h1;simp at A;refine⟨⟨oM,.inr ⟨g,off+1,cap-1,j,rfl,p,oM,oM,oM,fun q u hj=>?_⟩⟩,fun N=>⟨oM,.inr ⟨g,off,0,j,rfl,p,oM,oM,oM,fun q u hj=>?_⟩⟩,oM⟩
  .have:=D (q+1) u oC;rw[<-this];congr 1;omega
  .have:=(qym.1 hj).1;omega
theorem Sl.kM(h:Sl w e k v n xs)(hu:Upd (fun j=>j=b) w w')(p:v.ownBlock≠some b):Sl w' e k v n xs:=
 h.keep hu (fun g q A=>p (by rw[q,A]))
theorem zi(w:World)(b i:Nat)(u:Value):Upd (fun j=>j=b) w (w.setCell ⟨b,i,none⟩ u):=Upd.setCell (S:=fun j=>j=b) (Upd.refl _ w) ⟨b,i,none⟩ (fun _=>rfl) u
end
def ints(l:List Int):List Value:=l.map (.int .i64)
@[simp]theorem zet:ints []=[]:=rfl
@[simp]theorem zek (x:Int)(l:List Int):ints (x::l)=.int .i64 x::ints l:=rfl
@[simp]theorem Xm (l m:List Int):ints (l++m)=ints l++ints m:=by simp[ints]
@[simp]theorem xr (l:List Int):(ints l).length=l.length:=by simp[ints]
theorem yh{l:List Int}{j:Nat}(h:j<l.length):(ints l)[j]?=some (.int .i64 l[j]):=by simp[ints,h]
abbrev Bk:=List UInt8
def bkC(x:Bk):List Value:=x.map Go.Extern.Stop.cell
def bkV(x:Bk):Value:=.agg (bkC x).toArray
def rowC(F:List Bk):List Value:=F.flatMap bkC
theorem zm(x:Bk):(bkC x).length=x.length:=by simp[bkC]
theorem zx(x:Bk):∀v∈bkC x,v.oneCell'=true:=by intro v h;simp only[bkC,qzr]at h;obtain⟨b,_,rfl⟩:=h;rfl
def All64(F:List Bk):Prop:=∀x∈F,x.length=64
theorem uL{F:List Bk}(h:All64 F):(rowC F).length=F.length*64:=by
 induction F with
 |nil=>rfl
 |cons x F j=>
  have h1:=h x oe;have h2:=j (fun y hy=>h y (by simp[hy]));simp only[rowC,qyf,qyz,zm]at h2⊢;rw[h1,qza];omega
theorem vM{F:List Bk}(h:All64 F){i:Nat}(hi:i<F.length){j:Nat}(p:j<64):(rowC F)[i*64+j]?=(bkC F[i])[j]?:=by
 induction F generalizing i with
 |nil=>simp at hi
 |cons x F q=>
  have h1:=h x oe;cases i with
  |zero=>
   simp only[rowC,qyf,qYa,qXy,qyt];rw[qyh (by rw[zm,h1];exact p)]
  |succ i=>
   simp only[rowC,qyf,qys];rw[qyi (by rw[zm,h1];omega),zm,h1];have:=q (fun y hy=>h y (by simp[hy])) (i:=i) oz;rw[<-this]
   congr 1
   omega
theorem All64.set{F:List Bk}(h:All64 F)(i:Nat){x:Bk}(hx:x.length=64):All64 (F.set i x):=by
 intro y hy;rcases List.mem_or_eq_of_mem_set hy with h1|rfl
 .exact h y h1
 .exact hx
theorem Zt{j:Array Value}{F:List Bk}(p:All64 F)(E:w.heap[g]?=some (.cells j e (0,0)))(G:∀h u,(rowC F)[h]?=some u->j[off+h]?=some u){i:Nat}(q:i<F.length):
  w.rangeAt g (off+i*64) (bkC F[i]):=by
 intro h v A;have D:=(qym.1 A).1;rw[zm,p _ (qyv q)]at D;rw[za E,qXm];exact G _ _ (by rw[vM p q D];exact A)
theorem Qa{j:Array Value}(p:w.heap[g]?=some (.cells j e (0,0))){i:Nat}(q:i<n)(A:off+n*64<=j.size):w.there g (off+i*64) 64:=by
 intro D E;rw[za p,zf p];exact⟨by rw[qxe oM];rfl,rfl⟩
theorem Sl.row_set{cap:Nat}{F:List Bk}(q:All64 F)(h:Sl w e 64 (.slice (some ⟨g,off,none⟩) F.length cap) F.length (rowC F)){i:Nat}(_:i<F.length){x:Bk}(hx:x.length=64):
  Sl (w.setCells g (off+i*64) (bkC x)) e 64 (.slice (some ⟨g,off,none⟩) (F.set i x).length cap) (F.set i x).length (rowC (F.set i x)):=by
 obtain⟨Y,⟨h1,_⟩|⟨Z,a6,a7,H,h1,J,L,M,a8,N⟩⟩:=h
 .cases h1
 cases h1;obtain⟨U,V,aa,W⟩:=zy (bkC x) (off+i*64) w g H e (0,0) J;refine⟨uL (q.set i hx),.inr ⟨g,off,cap,U,rfl,V,by simpa using L,M,oM,fun j u p=>?_⟩⟩;have X:=(qym.1 p).1;rw[uL (q.set i hx),qzf]at X;have A:j=j/64*64+j%64:=oM;have D:j%64<64:=qXu _ oM;have E:j/64<F.length:=oM;rw[A,vM (q.set i hx) (by rw[qzf];exact E) D,qyx]at p;rw[W,zm,hx];by_cases G:i=j/64
 .rw [if_pos G]at p;rw[if_pos ⟨oM,oM,oM⟩,show off+j-(off+i*64)=j%64 by omega];exact p
 .rw [if_neg G]at p;rw[if_neg oM];refine N j u ?_;rw[A,vM q E D];exact p
theorem zn(w:World)(g o:Nat)(h:List Value):Upd (fun j=>j=g) w (w.setCells g o h):=ym _ w g o h rfl
theorem Qb(w:World)(cs:Array Value)(t:TypeId)(i:Nat)(v:Value):(w.alloc (.cells cs t)).setCell ⟨w.heap.size,i,none⟩ v=w.alloc (.cells (cs.setIfInBounds i v) t):=by
 simp only[World.setCell,World.alloc,World.mk.injEq,and_true];apply qxd
 intro k;rw[Array.getElem?_modify];by_cases j:w.heap.size=k
 .subst j;simp
 .rw [if_neg j];by_cases p:k<w.heap.size
  .rw [Array.getElem?_push_lt p,Array.getElem?_push_lt p]
  .rw [qxf og,qxf og]
theorem vj(w:World)(t:TypeId):∀(j:List Value) (cs:Array Value) (o:Nat),∃p:Array Value,(w.alloc (.cells cs t)).setCells w.heap.size o j=w.alloc (.cells p t)/\p.size=cs.size/\∀k,p[k]?=if o<=k/\k<o+j.length/\k<cs.size then j[k-o]? else cs[k]?
 |[],cs,o=>⟨cs,rfl,rfl,fun k=>by rw[if_neg og]⟩
 |v::j,cs,o=>by
  obtain⟨p,h1,h2,E⟩:=vj w t j (cs.setIfInBounds o v) (o+1);refine⟨p,?_,by simpa using h2,fun k=>?_⟩
  .rw [World.setCells,Qb];exact h1
  .rw [E k];by_cases D:o=k
   .subst D;rw[if_neg oM];by_cases A:o<cs.size
    .rw [if_pos ⟨oM,oe,A⟩];simp[A]
    .rw [if_neg oM];simp[A]
   .by_cases q:o+1<=k/\k<o+1+j.length/\k<cs.size
    .rw [if_pos (by simpa using q),if_pos ⟨oM,by simp;omega,q.2.2⟩];have:k-o=(k-(o+1))+1:=oM;rw[this,List.getElem?_cons_succ]
    .rw [if_neg (by simpa using q),if_neg (by simp at q⊢;omega),qxg D]
theorem qm(w:World)(t:TypeId)(j:List Value)(cs:Array Value)(h:cs.size=j.length):(w.alloc (.cells cs t)).setCells w.heap.size 0 j=w.alloc (.cells j.toArray t):=by
 obtain⟨p,h1,h2,q⟩:=vj w t j cs 0;rw[h1];have:p=j.toArray:=by
  apply qxd
  intro k;have e:j.toArray[k]?=j[k]?:=oe;rw[q k,e];by_cases A:k<j.length
  .rw [if_pos ⟨oM,oM,oM⟩];rfl
  .rw [if_neg oM,qxf oM,qyl oM]
 rw[this]
theorem zk{P:Program}{ops:Array Oper}{rest:List Oper}{op:Oper}{a:Act}{Q:Exit->Act->World->Prop}(p:op.guard=none)(ty:TypeId)(x y:Operand)(q:op.op=.store ty x y)
  (zs:Array Value) (t:TypeId) (j:List Value) (hx:a.eval x=.pointer (some ⟨w.heap.size,0,none⟩)) (hy:a.eval y=.agg j.toArray) (A:zs.size=j.length)
  (hi:(P.info? ty).map (·.size)=some j.length) (h1:∀v∈j,v.oneCell'=true)
  (h:wpList P ops Q rest (a.put op.dst undef) (w.alloc (.cells j.toArray t))):wpList P ops Q (op::rest) a (w.alloc (.cells zs t)):=by
 refine qZb p ty x y q w.heap.size 0 j.toArray hx hy (fun E D=>?_) oz (qYo h1) ?_
 .rw [za (zc w _ rfl),zf (zc w _ rfl)];simp at D;exact⟨by rw[qXy,qxe oM];rfl,rfl⟩
 .rw [List.toList_toArray,qm w t j zs A];exact h
theorem zp{P:Program}{j:Func}{p u:Tmp}(q:j.results= #[.cell p ty,.tmp u])(h:Array Value)(w:World)(b o:Nat)(cs:List Value)(d:TypeDesc)
  (A:h.getD p undef=.pointer (some ⟨b,o,none⟩)) (D:w.rangeAt b o cs) (hu:P.underlying ty=some d) (E:d.isRow=true) (G:(P.info? ty).map (·.size)=some cs.length):
  (results j h).run P w=.ok (.tuple #[.agg cs.toArray,h.getD u undef]) w:=by
 have H:h[p]?.getD undef=.pointer (some ⟨b,o,none⟩):=by simpa using A
 rw[results_cell_tmp q];simp[H,asAddr,run_loadVar_mid w b o ty cs d D hu E G,Result.andThen]
theorem zq{P:Program}{j:Func}{p:Tmp}(q:j.results= #[.cell p ty])(h:Array Value)(w:World)(b o:Nat)(cs:List Value)(d:TypeDesc)
  (A:h.getD p undef=.pointer (some ⟨b,o,none⟩)) (D:w.rangeAt b o cs) (hu:P.underlying ty=some d) (E:d.isRow=true) (G:(P.info? ty).map (·.size)=some cs.length):
  (results j h).run P w=.ok (.agg cs.toArray) w:=by
 have H:h[p]?.getD undef=.pointer (some ⟨b,o,none⟩):=by simpa using A
 simp[results,q,H,asAddr,run_loadVar_mid w b o ty cs d D hu E G]
theorem zg{t:TypeId}{fz:Nat×Nat}(h:w.heap[g]?=some (.cells cs.toArray t fz)):w.rangeAt g 0 cs:=fun p v j=>by
 rw[za h,qXy];simpa using j
def Al(O:List (Nat×Bk)):List Value:=O.flatMap fun p=> .int .i64 (p.1:Int)::bkC p.2
structure DvGood(F:List Bk)(O:List (Nat×Bk))(P:List Int):Prop where
 f64:All64 F
 o64:∀p∈O,p.2.length=64/\p.1<F.length
 f1:1<=F.length
 fl:F.length<=4096
 ol:O.length<=65536
 pl:P.length<=65536
structure DvAt(w:World)(b:Nat)(vf vo vp:Value)(F:List Bk)(O:List (Nat×Bk))(P:List Int):Prop where
 str:w.heap[b]?=some (.cells #[vf,vo,vp] 89 (0,0))
 fs:Sl w 60 64 vf F.length (rowC F)
 os:Sl w 145 65 vo O.length (Al O)
 ps:Sl w 3 1 vp P.length (ints P)
 good:DvGood F O P
 fb:vf.ownBlock≠some b
 ob:vo.ownBlock≠some b
 pb:vp.ownBlock≠some b
 fo:Dis vf vo
 fp:Dis vf vp
 op:Dis vo vp
def dvS(b:Nat)(vf vo vp:Value):Nat->Prop:=fun j=>j=b\/vf.ownBlock=some j\/vo.ownBlock=some j\/vp.ownBlock=some j
section
variable{w w' w2:World}{b:Nat}{vf vo vp v2:Value}{F F':List Bk}{O O':List (Nat×Bk)}{P P':List Int}
theorem DvAt.keep(h:DvAt w b vf vo vp F O P)(hu:Upd S w w')(p:∀q,dvS b vf vo vp q->¬S q):DvAt w' b vf vo vp F O P:=
 {h with
  str:=(hu.block _ (zd h.str) (p b (.inl rfl))).trans h.str
  fs:=h.fs.keep hu (fun g j=>p g (.inr (.inl j)))
  os:=h.os.keep hu (fun g j=>p g (.inr (.inr (.inl j))))
  ps:=h.ps.keep hu (fun g j=>p g (.inr (.inr (.inr j))))}
theorem DvAt.new(h:DvAt w b vf vo vp F O P)(hu:Upd (fun _=>False) w w'):DvAt w' b vf vo vp F O P:=h.keep hu (fun _ _ h=>h)
theorem DvAt.blt(h:DvAt w b vf vo vp F O P):b<w.heap.size:=zd h.str
theorem DvAt.slt(j:DvAt w b vf vo vp F O P):∀p,dvS b vf vo vp p->p<w.heap.size:=by
 rintro p (rfl|h|h|h)
 .exact j.blt
 .exact j.fs.lt h
 .exact j.os.lt h
 .exact j.ps.lt h
theorem DvAt.c(h:DvAt w b vf vo vp F O P):w.cell? ⟨b,0,none⟩=some vf/\w.cell? ⟨b,1,none⟩=some vo/\w.cell? ⟨b,2,none⟩=some vp:=by
 refine⟨?_,?_,?_⟩<;>rw[za h.str]<;>rfl
theorem DvAt.fz(h:DvAt w b vf vo vp F O P)(i:Nat):w.frozen? ⟨b,i,none⟩=false:=zf h.str i
end
def Dv(S:Nat->Prop)(w:World)(b:Nat)(F:List Bk)(O:List (Nat×Bk))(P:List Int):Prop:=
 ∃vf vo vp,DvAt w b vf vo vp F O P/\∀j,dvS b vf vo vp j->S j
section
variable{S:Nat->Prop}{w w':World}{b:Nat}{F:List Bk}{O:List (Nat×Bk)}{P:List Int}
theorem Dv.keep(j:Dv S w b F O P){T:Nat->Prop}(hu:Upd T w w')(q:∀h,S h->¬T h):Dv S w' b F O P:=by
 obtain⟨vf,vo,vp,j,p⟩:=j;exact⟨vf,vo,vp,j.keep hu (fun h A=>q h (p h A)),p⟩
theorem Dv.new(h:Dv S w b F O P)(hu:Upd (fun _=>False) w w'):Dv S w' b F O P:=h.keep hu (fun _ _ h=>h)
theorem Dv.below(h:Dv S w b F O P)(j:Below w.heap.size w w'):Dv S w' b F O P:=h.new (Upd.of_below j)
theorem Dv.out(j:Dv S w b F O P)(q:∀h,h<w.heap.size->S h->S' h):Dv S' w b F O P:=by
 obtain⟨vf,vo,vp,j,A⟩:=j;exact⟨vf,vo,vp,j,fun h p=>q h (j.slt h p) (A h p)⟩
theorem Dv.good(h:Dv S w b F O P):DvGood F O P:=by obtain⟨vf,vo,vp,h,-⟩:=h;exact h.good
end
def hasC(n:Nat)(s:Int):Int:=if s<0\/(n:Int)<=s then 10 else 0
theorem qn{F:List Bk}{O:List (Nat×Bk)}(h:Dv S w b F O P):
  Calls prog 78 #[.pointer (some ⟨b,0,none⟩)] w fun e w'=>e=.returned (.int .i64 F.length)/\w'=w:=by
 obtain⟨vf,vo,vp,h,-⟩:=h;obtain⟨j,-,-⟩:=h.c;obtain⟨p,c,rfl⟩:=h.fs.rd.j6;clear h;go_enter func78,ntmps78
 go_wp2
 go_ret
 exact⟨rfl,rfl⟩
theorem zbG{F:List Bk}{O:List (Nat×Bk)}(h:Dv S w b F O P):
  Calls prog 74 #[.pointer (some ⟨b,0,none⟩)] w fun e w'=>e=.returned (.int .i64 O.length)/\w'=w:=by
 obtain⟨vf,vo,vp,h,-⟩:=h;obtain⟨-,j,-⟩:=h.c;obtain⟨p,c,rfl⟩:=h.os.rd.j6;clear h;go_enter func74,ntmps74
 go_wp2
 go_ret
 exact⟨rfl,rfl⟩
theorem zev{F:List Bk}{O:List (Nat×Bk)}(h:Dv S w b F O P)(s:Int):
  Calls prog 79 #[.pointer (some ⟨b,0,none⟩),.int .i64 s] w fun e w'=>e=.returned (.int .i64 (hasC F.length s))/\w'=w:=by
 obtain⟨vf,vo,vp,h,-⟩:=h;obtain⟨p,-,-⟩:=h.c;have q:=h.good.fl;obtain⟨A,c,rfl⟩:=h.fs.rd.j6;clear h;by_cases h1:s<0
 .have j:hasC F.length s=10:=if_pos (.inl h1);rw[j];clear j;go_enter func79,ntmps79
  go_wp2
  go_ret
  exact⟨rfl,rfl⟩
 .by_cases h2:(F.length:Int)<=s
  .have j:hasC F.length s=10:=if_pos (.inr h2);rw[j];clear j;go_enter func79,ntmps79
   go_wp2
   go_ret
   exact⟨rfl,rfl⟩
  .have j:hasC F.length s=0:=if_neg (fun h=>h.elim h1 h2);rw[j];clear j;go_enter func79,ntmps79
   go_wp2
   go_ret
   exact⟨rfl,rfl⟩
def zB:Bk:=List.replicate 64 0
theorem zH:zB.length=64:=by simp[zB]
theorem Vg:(prog.info? 60).map (fun i=>(i.zero,i.size,i.bytes))=some (some (bkV zB),64,64):=kR
theorem RS(n:Nat)(x:Bk)(hx:x.length=64)(j:Nat)(A:j<n*64):(rowC (List.replicate n x))[j]?=(bkC x)[j%64]?:=by
 have p:All64 (List.replicate n x):=fun y hy=>by rw[(List.mem_replicate.1 hy).2];exact hx
 have q:j/64<(List.replicate n x).length:=by rw[qze];omega
 have:=vM p q (j:=j%64) (qXu _ oM);rw[show j/64*64+j%64=j by omega]at this;rw[this];simp
theorem UA(n:Nat)(h1:1<=n)(h2:n<=4096)(w:World):
  Calls prog 27 #[.int .i64 n] w fun e w'=>∃b,e=.returned (.tuple #[.pointer (some ⟨b,0,none⟩),.int .i64 0])/\
   Dv (fun p=>w.heap.size<=p) w' b (List.replicate n zB) [] []/\w.heap.size<=b/\Below w.heap.size w w':=by
 obtain⟨i,E,G,H,hz2⟩:=qYt Vg;have J:=run_make (P:=prog) w 32 60 i (bkV zB) underlying32 E G .i64 .i64 n n oM (Int.le_refl _) jK oM;rw[qxt,H]at J;have q1:¬((n:Int)<1):=oM;have q2:¬((4096:Int)<n):=oM;obtain⟨C,q⟩:∃C:Array Value,C=madeCells (bkV zB).cells (n*64):=⟨_,rfl⟩
 rw[<-q]at J;have L:Hid (C.size=n*64/\∀(p:Nat) (u:Value),(rowC (List.replicate n zB))[p]?=some u->C[p]?=some u):=by
  refine⟨by rw[q,size_madeCells],fun p u j=>?_⟩;have A:All64 (List.replicate n zB):=fun y hy=>by rw[(List.mem_replicate.1 hy).2];exact zH
  have D:=(qym.1 j).1;rw[uL A,qze]at D;rw[RS n zB zH p D]at j;have N:(bkV zB).cells=(bkC zB).toArray:=rfl;have U:(bkC zB).length=64:=by rw[zm,zH]
  rw[q];simp only[madeCells,Array.getElem?_map,Array.getElem?_range,D,if_true,Option.map_some,N,qXi,U];rw[getElem!_def];simp only[qyr,j]
 clear q G H hz2 E;go_enter func27,ntmps27
 go_wp2
 go_ret2
 have V:(w.alloc (.cells C 60)).heap.size=w.heap.size+1:=oe;have A:All64 (List.replicate n zB):=fun y hy=>by rw[(List.mem_replicate.1 hy).2];exact zH
 have M:(List.replicate n zB).length=n:=qze;refine⟨w.heap.size+1,rfl,⟨.slice (some ⟨w.heap.size,0,none⟩) n n,.slice none 0 0,.slice none 0 0,⟨zc _ _ V.symm,?_,Sl.nil _ _ _,Sl.nil _ _ _,⟨A,oe,oM,oM,oe,oe⟩,by simp[Value.ownBlock],by simp[Value.ownBlock],by simp[Value.ownBlock],(Dis.nil _ _ _).symm,(Dis.nil _ _ _).symm,Dis.nil _ _ _⟩,?_⟩,oM,(((qxl _ w).alloc (qXp _) _).alloc oe _)⟩
 .rw [M];refine Sl.keep (w:=w.alloc (.cells C 60)) ⟨by rw[uL A,M],.inr ⟨w.heap.size,0,n,C,rfl,zc w _ rfl,qXp _,by unfold maxLen;omega,by rw[L.o.1];omega,fun p u j=>by rw[qXy];exact L.o.2 p u j⟩⟩ (Upd.alloc (Upd.refl (fun _=>False) _) _) (fun _ _ h=>h)
 .rintro p (rfl|j|j|j)
  .omega
  .simp [Value.ownBlock]at j;omega
  .cases j
  .cases j
section
variable{w w' w2:World}{b:Nat}{vf vo vp v2:Value}{F F':List Bk}{O O':List (Nat×Bk)}{P P':List Int}
theorem UB{x:Nat}(h:blockFrom w v v')(hv:v.ownBlock≠some x)(hx:x<w.heap.size):v'.ownBlock≠some x:=by
 intro e;rcases h with h|⟨g,h,j⟩
 .exact hv (by rw[<-h,e])
 .rw [h]at e;cases e;omega
theorem DvAt.setPlan(h:DvAt w b vf vo vp F O P)(hu:Upd (ownS vp) w w2)(h2:Sl w2 3 1 v2 P'.length (ints P'))(p:blockFrom w vp v2)(j:DvGood F O P'):DvAt (w2.setCell ⟨b,2,none⟩ v2) b vf vo v2 F O P':=
 have q:=UB p h.pb h.blt;have A:w2.heap[b]?=_:=(hu.block b h.blt (fun e=>h.pb e)).trans h.str
 {str:=zh A 2 v2
  fs:=(h.fs.kO h.fp hu).kM (zi _ _ _ _) h.fb
  os:=(h.os.kO h.op hu).kM (zi _ _ _ _) h.ob
  ps:=h2.kM (zi _ _ _ _) q
  good:=j
  fb:=h.fb
  ob:=h.ob
  pb:=q
  fo:=h.fo
  fp:=(h.fp.symm.from p (fun _g j=>h.fs.lt j)).symm
  op:=(h.op.symm.from p (fun _g j=>h.os.lt j)).symm}
theorem DvAt.setOpen(h:DvAt w b vf vo vp F O P)(hu:Upd (ownS vo) w w2)(h2:Sl w2 145 65 v2 O'.length (Al O'))(p:blockFrom w vo v2)(j:DvGood F O' P):DvAt (w2.setCell ⟨b,1,none⟩ v2) b vf v2 vp F O' P:=
 have q:=UB p h.ob h.blt;have A:w2.heap[b]?=_:=(hu.block b h.blt (fun e=>h.ob e)).trans h.str
 {str:=zh A 1 v2
  fs:=(h.fs.kO h.fo hu).kM (zi _ _ _ _) h.fb
  os:=h2.kM (zi _ _ _ _) q
  ps:=(h.ps.kO h.op.symm hu).kM (zi _ _ _ _) h.pb
  good:=j
  fb:=h.fb
  ob:=q
  pb:=h.pb
  fo:=(h.fo.symm.from p (fun _g j=>h.fs.lt j)).symm
  fp:=h.fp
  op:=h.op.from p (fun _g j=>h.ps.lt j)}
end
theorem DvGood.tail{F:List Bk}{O:List (Nat×Bk)}(h:DvGood F O P):DvGood F O P.tail:={h with pl:=by rw[List.length_tail];have:=h.pl;omega}
def fate(P:List Int):Int:=P.headD 0
theorem Zcg014{P:Prop}(h:P:=by
  go_enter func128,ntmps128
  go_wp2
  go_region
  go_wp2
  go_ret
  exact⟨rfl,E.out,G.out⟩):P:=h
theorem zew{F:List Bk}{O:List (Nat×Bk)}(h:Dv S w b F O P)(X:w.cell? ⟨g,0,none⟩=some (.pointer (some ⟨b,0,none⟩))):
  Calls prog 128 #[.pointer (some ⟨g,0,none⟩)] w fun e w'=>e=.returned (.int .i64 (fate P))/\Dv S w' b F O P.tail/\Upd (fun p=>p=b) w w':=by
 obtain⟨vf,vo,vp,h,D⟩:=h;have j:=Y2 h D;obtain⟨-,-,Y⟩:=h.c;have Z:=h.fz 2;cases P with
 |nil=>
  obtain⟨a6,c,rfl⟩:=h.ps.rd.j6;clear h D;go_enter func128,ntmps128
  go_wp2
  go_ret
  exact⟨rfl,⟨vf,vo,_,j.o.1,j.o.2⟩,Upd.refl _ _⟩
 |cons H P=>
  obtain⟨q,op,A,a7,rfl,V,W,J⟩:=h.ps.at oe;have a8:=(za V op).trans (J 0 (.int .i64 H) rfl);have aa:=h.good.pl;have L:=Sl.tail (h.ps:Sl w 3 1 (.slice (some ⟨q,op,none⟩) (P.length+1) A) (P.length+1) (.int .i64 H::ints P));have M:=qqh L;have N:Hid (DvGood F O P):=h.good.tail;clear h D J W L;by_cases U:A=1
  .have E:Hid (Dv S (w.setCell ⟨b,2,none⟩ (.slice (some ⟨q,op,none⟩) P.length 0)).drew b F O P):=
    Dv.new ⟨vf,vo,_,j.o.1.setPlan (Upd.refl _ _) (M.o.2.1 U) (.inl rfl) N.out,j.o.2⟩ ((Upd.refl _ _).drew)
   have G:Hid (Upd (fun p=>p=b) w (w.setCell ⟨b,2,none⟩ (.slice (some ⟨q,op,none⟩) P.length 0)).drew):=(zi _ _ _ _).drew;subst U;exact Zcg014
  .have E:Hid (Dv S (w.setCell ⟨b,2,none⟩ (.slice (some ⟨q,op+1,none⟩) P.length (A-1))).drew b F O P):=
    Dv.new ⟨vf,vo,_,j.o.1.setPlan (Upd.refl _ _) M.o.1 (.inl rfl) N.out,j.o.2⟩ ((Upd.refl _ _).drew)
   have G:Hid (Upd (fun p=>p=b) w (w.setCell ⟨b,2,none⟩ (.slice (some ⟨q,op+1,none⟩) P.length (A-1))).drew):=(zi _ _ _ _).drew;exact Zcg014
def RT(S:Nat->Prop)(w:World)(b:Nat)(F:List Bk)(O:List (Nat×Bk))(P:List Int)(failed:Int)(Q:World->Prop)(e:Ending)(w':World):Prop:=
 (fate P=1/\e=.returned (.int .i64 failed)/\Dv S w' b F O P.tail/\Upd (fun j=>j=b) w w')\/(fate P=0/\e=.returned (.int .i64 0)/\Q w')\/
  (fate P≠0/\fate P≠1/\e=.returned (.int .i64 0)/\Dv S w' b F O P.tail/\Upd (fun j=>j=b) w w')
theorem RU{F:List Bk}{O:List (Nat×Bk)}(D:Dv S w b F O P)(E:Int)(fd:Nat)(G:Array Value)(Q:World->Prop)
  (Z:∀H w,(callFunc fd H).run prog w=.ok (.enter fd H) w)
  (J:fate P=0->∀w1,Dv S w1 b F O P.tail->Upd (fun U=>U=b) w w1->Calls prog fd G w1 fun e w'=>e=.returned (.tuple #[])/\Q w'):
  Calls prog 80 #[.pointer (some ⟨b,0,none⟩),.int .i64 E,.func (.func fd) #[] G] w (RT S w b F O P E Q):=by
 have a6:=qqf;have q:Upd (fun _=>False) w (w.alloc (.cells #[.pointer (some ⟨b,0,none⟩)] 38)):=(Upd.refl _ _).alloc _;have A:=qqh (D.new q);have V:Hid ((w.alloc (.cells #[.pointer (some ⟨b,0,none⟩)] 38)).cell? ⟨w.heap.size,0,none⟩=some (.pointer (some ⟨b,0,none⟩))):=za (zc w _ rfl) 0;have W:=qqh J;have X:=qqh q;clear D J q;go_enter func80,ntmps80
 go_wp2_with fail
 refine(zew A.o V.o).mono ?_;rintro e w1 ⟨rfl,L,M⟩;have h:=Y2 L ((X.o.mono fE).trans M);clear L M;by_cases h1:fate P=1
 .have A:=qqh h1;rw[h1];clear h1;go_wp2
  go_ret
  exact .inl ⟨A.o,rfl,h.out.1,h.out.2⟩
 .by_cases j:fate P=0
  .have p:=qqh j;rw[j];clear j h1;go_wp2_with fail
   refine(W.o p.o w1 h.out.1 h.out.2).mono ?_;rintro e w2 ⟨rfl,N⟩;have Y:=qqh N;clear N;go_wp2
   go_ret
   exact .inr (.inl ⟨p.o,rfl,Y.o⟩)
  .have q1:(fate P==1)=false:=by simpa using h1
   have a7:(fate P==0)=false:=by simpa using j
   have p:=Y2 j h1;clear j h1;go_wp2
   go_ret
   exact .inr (.inr ⟨p.o.1,p.o.2,rfl,h.out.1,h.out.2⟩)
abbrev wrC(s:Int)(x:Bk):List Value:=.int .i64 s::bkC x
theorem wrC_len(s:Int)(x:Bk):(wrC s x).length=x.length+1:=by simp[wrC,zm]
theorem uM(s:Int)(x:Bk):∀v∈wrC s x,v.oneCell'=true:=by
 intro v h;rcases qzn.1 h with rfl|j
 .rfl
 .exact zx x v j
theorem yR(off:Nat)(cs z:Array Value):(Array.foldl (fun(cs:Array Value) (x:Value×Nat)=>cs.setIfInBounds (off+x.2) x.1) z cs.zipIdx).size=z.size/\
  ∀k,(Array.foldl (fun(cs:Array Value) (x:Value×Nat)=>cs.setIfInBounds (off+x.2) x.1) z cs.zipIdx)[k]?=if off<=k/\k<off+cs.size/\k<z.size then cs[k-off]? else z[k]?:=by
 rw[<-Array.foldl_toList,Array.toList_zipIdx];obtain⟨h1,h2⟩:=Go.Great.foldl_set off cs.toList 0 z;exact⟨h1,fun k=>by rw[h2 k];simp⟩
theorem xF(pl:Nat->Option (Nat×Nat))(z:Array Value)(i off size:Nat)(v:Value)(rest:List (Nat×Value))(h:pl i=some (off,size))(hv:v.cells.size=size)(j:off+size<=z.size):
  Instr.fill pl z ((i,v)::rest)=Instr.fill pl (Array.foldl (fun(cs:Array Value) (x:Value×Nat)=>cs.setIfInBounds (off+x.2) x.1) z v.cells.zipIdx) rest:=by
 show(match pl i with|none=>none|some (off,size)=>_)=_
 rw[h];show(if(decide (v.cells.size≠size)||decide (off+v.cells.size>z.size))=true then none else _)=_;rw[if_neg (by simp[hv];omega)]
theorem Xn(p q:Value)(j:p.cells.size=1)(A:q.cells.size=64)(z:Array Value)(D:z.size=65)(pl:Nat->Option (Nat×Nat))(E:pl 0=some (0,1))(h1:pl 1=some (1,64)):
  Instr.fill pl z [(0,p),(1,q)]=some (p.cells.toList++q.cells.toList).toArray:=by
 obtain⟨a1,a2⟩:=yR 0 p.cells z;obtain⟨L,G⟩:=yR 1 q.cells (Array.foldl (fun(cs:Array Value) (x:Value×Nat)=>cs.setIfInBounds (0+x.2) x.1) z p.cells.zipIdx);rw[xF pl z 0 0 1 p _ E j oM,xF pl _ 1 1 64 q _ h1 A (by rw[a1];omega)];show some _=_
 congr 1
 apply qxd
 intro k;rw[G k,a1,D,A];by_cases H:k<65
 .by_cases J:k=0
  .subst J;rw[if_neg oM,a2 0,if_pos ⟨oM,oM,oM⟩];rw[show((p.cells.toList++q.cells.toList).toArray)[0]?=(p.cells.toList++q.cells.toList)[0]? by rw[qyr],qyh og];simp
  .rw [if_pos ⟨oM,oM,H⟩,show((p.cells.toList++q.cells.toList).toArray)[k]?=(p.cells.toList++q.cells.toList)[k]? by rw[qyr],qyi og];simp[j]
 .rw [if_neg oM,a2 k,if_neg oM,qxf oM,qxf og]
theorem zbT:(prog.info? 145).map (fun i=>(i.zero.map (·.cells.size),i.size,i.bytes))=some (some 65,65,72):=kR
theorem RV:(match prog.underlying 145 with|some (.struct fs)=>fs.toList.mapM (fun f=>(prog.info? f.type).map fun i=>(f.offset,i.size))|_=>none)=some [(0,1),(1,64)]:=kR
theorem xA:∃i z,prog.info? 145=some i/\i.zero=some z/\z.cells.size=65/\i.size=65/\i.bytes=72:=by
 obtain⟨i,j,h⟩:=qYc.1 zbT;simp only[qYe]at h;obtain⟨h1,h2,p⟩:=h;obtain⟨z,q,A⟩:=qYc.1 h1;exact⟨i,z,j,q,A,h2,p⟩
theorem uN(p q:Value)(A:p.cells.size=1)(D:q.cells.size=64)(w:World):(Instr.build 145 #[(0,p),(1,q)]).run prog w=.ok (.agg (p.cells.toList++q.cells.toList).toArray) w:=by
 refine run_build w _ _ _ ?_;obtain⟨i,z,E,G,H,_,_⟩:=xA;have h:=RV;have j:=underlying145;unfold Program.built;rw[j]at h;rw[E,j];simp only[G];simp only at h;rw[h];exact Xn p q A D z.cells H _ rfl rfl
theorem rj(v:Value)(hv:v.cells.size=65)(w:World):(Instr.buildSlice 86 1 #[(0,v)]).run prog w=.ok (.slice (some ⟨w.heap.size,0,none⟩) 1 1) (w.alloc (.cells v.cells 145)):=by
 obtain⟨i,z,j,p,q,hsz,_⟩:=xA;refine run_buildSlice w _ _ 1 _ _ i z underlying86 j p jF jF ?_;obtain⟨a1,a2⟩:=yR 0 v.cells ((Array.range (1*i.size)).map (z.cells[·%z.cells.size]!));rw[show(#[(0,v)]:Array (Nat×Value)).toList=[(0,v)]from rfl];rw[xF _ _ 0 0 65 v _ jN hv jN];show some _=_
 congr 1
 apply qxd
 intro k;rw[a2 k];by_cases A:k<65
 .rw [if_pos ⟨oM,oM,by simp[hsz];omega⟩];rfl
 .rw [if_neg oM,qxf kh,qxf oM]
theorem Xo(h:Option Tmp)(ty:TypeId)(pos:String)(after:Array Edge)(p q:Operand)(a:Act)(w:World)(K:Act->World->Prop)(Q:Exit->Act->World->Prop)(j:(a.eval p).cells.size=1)(A:(a.eval q).cells.size=64):
  Oper.wp prog {dst:=h,op:=.build 145 #[(0,p),(1,q)],type:=ty,pos:=pos,after:=after,guard:=none} a w K Q=K (a.put h (.agg ((a.eval p).cells.toList++(a.eval q).cells.toList).toArray)) w:=by
 unfold Oper.wp execOp;have:=uN (a.eval p) (a.eval q) j A w;simp only[qzl,qzi,qzk,qYg,this,qYf];rfl
theorem Qc(h:Option Tmp)(ty:TypeId)(pos:String)(after:Array Edge)(p:Operand)(a:Act)(w:World)(K:Act->World->Prop)(Q:Exit->Act->World->Prop)(j:(a.eval p).cells.size=65):
  Oper.wp prog {dst:=h,op:=.buildSlice 86 1 #[(0,p)],type:=ty,pos:=pos,after:=after,guard:=none} a w K Q=K (a.put h (.slice (some ⟨w.heap.size,0,none⟩) 1 1)) (w.alloc (.cells (a.eval p).cells 145)):=by
 unfold Oper.wp execOp;have:=rj (a.eval p) j w;simp only[qzl,qzi,qzk,qYg,this,qYf];rfl
theorem Zc(a:Act)(p q:Operand)(w:World)(h:(a.eval p).cells.size=1)(j:(a.eval q).cells.size=64):
  (Instr.build 145 ((#[(0,p),(1,q)]:Array (Nat×Operand)).map fun(i,x)=>(i,a.eval x))).run prog w=.ok (.agg ((a.eval p).cells.toList++(a.eval q).cells.toList).toArray) w:=by
 have:=uN (a.eval p) (a.eval q) h j w;simp only[qzl,qzi,qzk];exact this
theorem Xp(a:Act)(p:Operand)(w:World)(h:(a.eval p).cells.size=65):
  (Instr.buildSlice 86 1 ((#[(0,p)]:Array (Nat×Operand)).map fun(i,x)=>(i,a.eval x))).run prog w=.ok (.slice (some ⟨w.heap.size,0,none⟩) 1 1) (w.alloc (.cells (a.eval p).cells 145)):=by
 have:=rj (a.eval p) h w;simp only[qzl,qzi,qzk];exact this
theorem Ye:Tryz.zeroCells145.size=65:=kR
theorem RW(s:Int)(x:Bk)(hx:x.length=64):List.foldl (fun(cs:Array Value) (x:Value×Nat)=>cs.setIfInBounds (1+x.2) x.1) (Tryz.zeroCells145.setIfInBounds 0 (.int .i64 s)) (bkC x).zipIdx=(wrC s x).toArray:=by
 have j:(bkC x).length=64:=by rw[zm,hx]
 have p:(Tryz.zeroCells145.setIfInBounds 0 (.int .i64 s)).size=65:=by rw[Array.size_setIfInBounds,Ye]
 obtain⟨_,q⟩:=Go.Great.foldl_set 1 (bkC x) 0 (Tryz.zeroCells145.setIfInBounds 0 (.int .i64 s));apply qxd
 intro k;rw[q k,p];by_cases A:k<65
 .by_cases D:k=0
  .subst D;rw[if_neg oM,Array.getElem?_setIfInBounds_self_of_lt (by rw[Ye];omega)];simp
  .rw [if_pos ⟨oM,oM,A⟩];obtain⟨m,rfl⟩:∃m,k=m+1:=⟨k-1,oM⟩
   simp
 .rw [if_neg oM,qxf oM,qxf (by simp[j];omega)]
theorem Zcg012{P:Prop}(h:P:=by
  refine⟨v',w',G,Sl.of_own H,Upd.kC Y (fun g j _=>by cases j),?_⟩;rcases H.2 with⟨rfl,au⟩|⟨Z,av,a6,rfl,a7,_⟩
  .omega
  .exact .inr ⟨Z,rfl,a7⟩):P:=h
theorem xh{P:Program}{m:Nat}{x':Value}{news:List Value}(t ty:TypeId)
  (i:TypeInfo) (z:Value) (J:Nat) (A:P.underlying t=some (.slice e)) (D:P.info? e=some i) (aa:i.zero=some z)
  (N:i.size=k) (ab:i.bytes=J) (ad:z.cells.size=k) (ae:0<k)
  (L:Sl w e k v n xs) (ak:Rd w k x' m news) (h1:∀u∈news,u.oneCell'=true) (af:n+m<=maxLen) (ag:(n+m)*J<=140737488355328):
  ∃v' w',(Builtin.append_ #[t,t] ty #[v,x']).run P w=.ok v' w'/\Sl w' e k v' (n+m) (xs++news)/\Upd (ownS v) w w'/\blockFrom w v v':=by
 obtain⟨hnl,az,am,U,rfl,an,ao⟩:=ak;cases am with
 |none=>
  have ap:=an rfl;subst ap;obtain rfl:news=[]:=qyc kf;refine⟨v,w,?_,by simpa using L,Upd.refl _ _,.inl rfl⟩;obtain⟨_,⟨rfl,rfl⟩|⟨g,off,E,ah,rfl,j,ai,aj,aq,V⟩⟩:=L
  .simp [Builtin.append_,run_underlying A,sizeOf,typeInfo,D,Builtin.lenOf,Builtin.firstCells]
  .simp [Builtin.append_,run_underlying A,sizeOf,typeInfo,D,Builtin.lenOf,Builtin.firstCells,ai,storeCells]
 |some M=>
  have W:=ao M rfl;have ar:=L;obtain⟨X,⟨rfl,rfl⟩|⟨g,off,E,ah,rfl,j,ai,aj,aq,V⟩⟩:=L
  .obtain rfl:xs=[]:=qyc (by simpa using X);cases m with
   |zero=>
    obtain rfl:news=[]:=qyc kf;refine⟨.slice none 0 0,w,?_,by simpa using ar,Upd.refl _ _,.inl rfl⟩;exact Zcg013
   |succ m=>
    obtain⟨v',w',G,H,Y,_⟩:=run_append_own (P:=P) w w.heap.size t ty e i z k J A D aa N ab ad ae (.slice none 0 0) 0 [] (World.ownsRow_nil w _ e k) M (m+1) U news hnl W h1 af ag (qXp _);exact Zcg012
  .by_cases a8:n+m<=E
   .have aw:=qXv k a8;rw[Nat.add_mul]at aw;subst N;have G:=run_append_room_cells (P:=P) w t ty e i A D g off n E M m U news hnl W h1 a8 (fun p q=>by rw[za j];simp;omega) (fun p _=>zf j _);obtain⟨a6,h2,aA,ax⟩:=zy news (off+n*i.size) w g ah e (0,0) j;refine⟨_,_,G,⟨by rw[qyz,X,hnl,Nat.add_mul],.inr ⟨g,off,E,a6,rfl,h2,a8,aj,oM,fun p u q=>?_⟩⟩,ym _ w g _ news rfl,.inl rfl⟩;rw[ax];by_cases ay:p<xs.length
    .rw [qyh ay]at q;rw[if_neg oM];exact V p u q
    .rw [qyi oM]at q;have hlt:=(qym.1 q).1;rw[if_pos ⟨oM,oM,oM⟩];have:off+p-(off+n*i.size)=p-xs.length:=oM;rw[this];exact q
   .obtain ⟨v',w',G,H,Y⟩:=run_append_arg_grows (P:=P) w t ty e i z k J A D aa N ab ad ae ⟨g,off,none⟩ n E xs X (fun p u q=>by rw[qxa,za j];exact V p u q) M m U news hnl W oM af ag;exact Zcg012
attribute [local go_sem↓] Xo Qc Zc Xp Go.wp_at_zero Go.wp_at_succ
theorem Xq(O:List (Nat×Bk))(s:Nat)(x:Bk):Al (O++[(s,x)])=Al O++wrC s x:=by simp[Al,wrC]
theorem zu(x:Bk)(hx:x.length=64):(prog.info? 60).map (·.size)=some (bkC x).length:=by
 obtain⟨i,h,_,h1,_⟩:=qYt Vg;rw[h,zm,hx,Option.map_some,h1]
theorem DvGood.write{F:List Bk}{O:List (Nat×Bk)}(h:DvGood F O P){x:Bk}(j:s<F.length)(hx:x.length=64)(A:O.length<65536):DvGood F (O++[(s,x)]) P:={h with
 o64:=by intro p q;rcases qzm.1 q with h1|h1;exact h.o64 p h1;simp at h1;subst h1;exact⟨hx,j⟩
 ol:=by simp;omega}
theorem zl{a:Addr}(h:w.cell? a=some v)(o:Obj):(w.alloc o).cell? a=some v:=by
 rw[World.cell?_alloc_some w a o (by rw[h];rfl),h]
theorem Upd.j3(hu:Upd S w w'){o:Nat}(h:w.cell? ⟨g,o,none⟩=some v)(j:¬S g):w'.cell? ⟨g,o,none⟩=some v:=by
 have e:=hu.block g (qYh w _ h) j;unfold World.cell? at*;simp only[e];exact h
theorem Upd.range(hu:Upd S w w'){o:Nat}(h:w.rangeAt g o cs)(j:¬S g):w'.rangeAt g o cs:=fun p v q=>hu.j3 (h p v q) j
theorem zv{o h:Nat}(j:w.cell? ⟨g,o,none⟩=some v)(p:¬b=g):(w.setCell ⟨b,h,none⟩ u).cell? ⟨g,o,none⟩=some v:=by
 rw[World.cell?_setCell_other _ _ _ _ (fun e=>p (congrArg Addr.block e)),j]
theorem zC{o h:Nat}(j:w.rangeAt g o cs)(p:¬b=g):(w.setCell ⟨b,h,none⟩ u).rangeAt g o cs:=fun q v A=>zv (j q v A) p
theorem zV{P:Program}{ops:Array Oper}{o:Oper}{a:Act}{K:Act->World->Prop}{Q:Exit->Act->World->Prop}{E:Prop}
  (p:o.guard=none) (s x:Operand) (t:TypeId) (q:o.op=Op.call {callee:=Callee.builtin Builtin.append,args:= #[s,x],argTypes:= #[t,t]})
  {h j:Value}  (A:a.eval s=h) (hx:a.eval x=j) (D:(Builtin.append_ #[t,t] o.type #[h,j]).run P w=.ok v' w')
  (G:K (a.put o.dst v') w'):
  if Region.wanted o (yielded ops a.tmps)=true then Oper.wp P o a w K Q else E:=by
 have H:Region.wanted o (yielded ops a.tmps)=true:=by simp[Region.wanted,p]
 rw[if_pos H];unfold Oper.wp;simp[execOp,q,resolve,invoke,builtin,A,hx,D,Result.andThen];exact G
theorem Zcg01{P:Prop}(h:P:=by
  go_simp
  refine j.o _ _ (by(go_split_ands;(simp only[qYk,qYi]at*);((repeat' constructor)<;>first|assumption|(apply zl;assumption)|(refine zv ?_ ?_<;>assumption)|(refine zC ?_ ?_<;>assumption)|(apply qYj;assumption)|(apply qYn;assumption)))) (fun az=>?_);clear j K;refine Wl.r 9 (fun K j=>?_);refine zV rfl _ _ _ rfl rfl rfl af ?_;refine j.o _ _ (by(go_split_ands;(simp only[qYk,qYi]at*);((repeat' constructor)<;>first|assumption|(apply zl;assumption)|(refine zv ?_ ?_<;>assumption)|(refine zC ?_ ?_<;>assumption)|(apply qYj;assumption)|(apply qYn;assumption)))) (fun a6=>?_);clear j K;refine Wl.i [10,11] ?_;iterate 2 refine Wl.t a6 ?_
  refine Wl.o ?_;refine Wl.r 12 (fun K j=>?_);go_simp
  refine j.o _ _ (by(go_split_ands;(simp only[qYk,qYi]at*);((repeat' constructor)<;>first|assumption|(apply zl;assumption)|(refine zv ?_ ?_<;>assumption)|(refine zC ?_ ?_<;>assumption)|(apply qYj;assumption)|(apply qYn;assumption)))) (fun aA=>?_);clear j K;refine Wl.d ?_
  go_end0
  obtain⟨p,M,D,A,q⟩:=aj.o;have U:=ah.out;have a7:(O++[(s,x)]).length=O.length+1:=oe;rw[a7]at U D;refine⟨rfl,⟨vf,_,vp,U,?_⟩,?_⟩
  .rintro V (rfl|h|h|h)
   .exact p _ (.inl rfl)
   .exact p _ (.inr (.inl h))
   .rcases D with e|⟨g,a8,hge⟩
    .exact p _ (.inr (.inr (.inl (e▸h))))
    .rw [a8]at h;cases h;exact M _ (qXr A.size hge)
   .exact p _ (.inr (.inr (.inr h)))
  .exact ((A.mono fE).trans (q.mono (fun k _ G=>p _ (.inr (.inr (.inl G)))))).trans (Upd.mono (zi _ _ _ _) (fun k _ G=>G▸p _ (.inl rfl)))):P:=h
theorem As{H J L:Nat}{F:List Bk}{O:List (Nat×Bk)}(h:Dv S w b F O P)(M:∀V,w.heap.size<=V->S V)(s:Nat)(x:Bk)(ak:s<F.length)(hx:x.length=64)(am:O.length<65536)
  (aa:w.cell? ⟨H,0,none⟩=some (.pointer (some ⟨b,0,none⟩))) (c1:w.cell? ⟨J,0,none⟩=some (.int .i64 (s:Int))) (c2:w.rangeAt L 0 (bkC x))
  (s0:¬S H) (ab:¬S J) (ad:¬S L):
  Calls prog 81 #[.pointer (some ⟨H,0,none⟩),.pointer (some ⟨J,0,none⟩),.pointer (some ⟨L,0,none⟩)] w fun e w'=>e=.returned (.tuple #[])/\Dv S w' b F (O++[(s,x)]) P/\Upd S w w':=by
 obtain⟨vf,vo,vp,h,p⟩:=h;obtain⟨i,z,an,ao,ap,aq,ar⟩:=xA;have A:Upd (fun _=>False) w (w.alloc (.cells (wrC s x).toArray 145)).drew:=((Upd.refl _ _).alloc _).drew;have E:=h.new A;have ae:Rd (w.alloc (.cells (wrC s x).toArray 145)).drew 65 (.slice (some ⟨w.heap.size,0,none⟩) 1 1) 1 (wrC s x):=
  Rd.keep (Rd.fresh w (wrC s x) 145 1 (by rw[wrC_len,hx]) oj) ((Upd.refl (fun _=>False) _).drew) (fun _ _ h=>h)
 obtain⟨v',w1,af,N,q,D⟩:=xh 86 86 i z 72 underlying86 an ao aq ar ap de E.os ae (uM s x) oj oM;rw[<-Xq]at N;have ag:O.length+1=(O++[(s,x)]).length:=oe;rw[ag]at N;obtain⟨aB,aC,rfl⟩:=N.rd.j6;have ah:=qqh (E.setOpen q N D (E.good.write ak hx am));have X:=(q.block b E.blt (fun e=>E.ob e)).trans E.str;have au:=za X 1;have aD:=zf X 1;simp at au;obtain⟨-,ai,-⟩:=h.c;have aE:=RW (s:Int) x hx;have av:=underlying60;have aw:=zu x hx;have aF:(bkC x).length=64:=by rw[zm,hx]
 have aG:=zx x;have W:∀g,¬S g->¬ownS vo g:=fun g ax e=>ax (p g (.inr (.inr (.inl e))));have aH:=q.j3 (zl aa _) (W H s0);have q1:=q.j3 (zl c1 _) (W J ab);have q2:=q.range (qYj c2 _) (W L ad);have aI:¬b=H:=fun e=>s0 (e▸p b (.inl rfl));have aJ:¬b=J:=fun e=>ab (e▸p b (.inl rfl));have aK:¬b=L:=fun e=>ad (e▸p b (.inl rfl));have aL:=zl ai (.cells (wrC s x).toArray 145);have aM:=World.new_ne w _ aa;have aN:=World.new_ne w _ c1;have aO:=World.new_ne w _ ai;have aj:=Y5 p M D A q;clear W E N q D A ae X p M ag h;go_enter func81,ntmps81
 refine qZc (S:=fun Y=>Y.cell? ⟨H,0,none⟩=some (.pointer (some ⟨b,0,none⟩))/\Y.cell? ⟨J,0,none⟩=some (.int .i64 (s:Int))/\Y.rangeAt L 0 (bkC x)) kR (by(go_split_ands;(simp only[qYk,qYi]at*);((repeat' constructor)<;>first|assumption|(apply zl;assumption)|(refine zv ?_ ?_<;>assumption)|(refine zC ?_ ?_<;>assumption)|(apply qYj;assumption)|(apply qYn;assumption)))) (fun Z=>?_);refine Wl.i [0,1,2,3,5] ?_;iterate 5 refine Wl.t Z ?_
 refine Wl.o ?_;refine Wl.l 6 (fun w h=>h.2.2) av aw Z ?_;refine Wl.i [7] (Wl.t Z (Wl.o ?_));refine qYx (rs:=[4,8]) kR oe ?_;refine qxb rfl (fun K j=>?_) (qxb rfl (fun K j=>?_) qxc)
 .go_simp
  refine j.o _ _ (by(go_split_ands;(simp only[qYk,qYi]at*);((repeat' constructor)<;>first|assumption|(apply zl;assumption)|(refine zv ?_ ?_<;>assumption)|(refine zC ?_ ?_<;>assumption)|(apply qYj;assumption)|(apply qYn;assumption)))) (fun ay=>?_);clear j K;refine Wl.r 8 (fun K j=>?_);exact Zcg01
 .go_simp
  refine j.o _ _ (by(go_split_ands;(simp only[qYk,qYi]at*);((repeat' constructor)<;>first|assumption|(apply zl;assumption)|(refine zv ?_ ?_<;>assumption)|(refine zC ?_ ?_<;>assumption)|(apply qYj;assumption)|(apply qYn;assumption)))) (fun ay=>?_);clear j K;refine Wl.r 4 (fun K j=>?_);exact Zcg01
theorem Dv.kI{T:Nat->Prop}{F:List Bk}{O:List (Nat×Bk)}(j:Dv S w b F O P)(q:∀h,S h->h<w.heap.size->T h):Dv T w b F O P:=by
 obtain⟨vf,vo,vp,j,A⟩:=j;exact⟨vf,vo,vp,j,fun h p=>q h (A h p) (j.slt h p)⟩
theorem Dv.wide{T:Nat->Prop}{F:List Bk}{O:List (Nat×Bk)}(j:Dv S w b F O P)(p:∀h,S h->T h):Dv T w b F O P:=by
 obtain⟨vf,vo,vp,j,q⟩:=j;exact⟨vf,vo,vp,j,fun h A=>p h (q h A)⟩
theorem Dv.sb{F:List Bk}{O:List (Nat×Bk)}(h:Dv S w b F O P):S b/\b<w.heap.size:=by
 obtain⟨vf,vo,vp,h,j⟩:=h;exact⟨j b (.inl rfl),h.blt⟩
theorem tO{s:Int}(h:hasC n s=0):(s.toNat:Int)=s/\s.toNat<n:=by
 unfold hasC at h;split at h
 .omega
 .omega
def Qd(S:Nat->Prop)(w:World)(b:Nat)(F:List Bk)(O:List (Nat×Bk))(P:List Int)(s:Int)(x:Bk)(e:Ending)(w':World):Prop:=
 (hasC F.length s≠0/\e=.returned (.int .i64 (hasC F.length s))/\Dv S w' b F O P/\Upd S w w')\/
 (hasC F.length s=0/\fate P=1/\e=.returned (.int .i64 20)/\Dv S w' b F O P.tail/\Upd S w w')\/
 (hasC F.length s=0/\fate P=0/\e=.returned (.int .i64 0)/\Dv S w' b F (O++[(s.toNat,x)]) P.tail/\Upd S w w')\/
 (hasC F.length s=0/\fate P≠0/\fate P≠1/\e=.returned (.int .i64 0)/\Dv S w' b F O P.tail/\Upd S w w')
theorem zbU{F:List Bk}{O:List (Nat×Bk)}(h:Dv S w b F O P)(L:∀j,w.heap.size<=j->S j)(s:Int)(x:Bk)(hx:x.length=64)(M:O.length<65536):
  Calls prog 49 #[.pointer (some ⟨b,0,none⟩),.int .i64 s,bkV x] w (Qd S w b F O P s x):=by
 have am:=qqf;have a7:=Y4 h L hx M;clear h L hx M;go_enter func49,ntmps49
 go_wp2_with fail
 rename_i an cs a8
 obtain rfl:(bkC x).toArray=cs:=by injection a8
 clear a8;have E:Upd (fun _=>False) w (((w.alloc (.cells #[.pointer (some ⟨b,0,none⟩)] 38)).alloc (.cells #[.int .i64 s] 3)).alloc (.cells (bkC x).toArray 60)):=(((Upd.refl _ w).alloc _).alloc _).alloc _;have X:(((w.alloc (.cells #[.pointer (some ⟨b,0,none⟩)] 38)).alloc (.cells #[.int .i64 s] 3)).alloc (.cells (bkC x).toArray 60)).cell? ⟨w.heap.size,0,none⟩=some (.pointer (some ⟨b,0,none⟩)):=
  zl (zl (za (zc w _ rfl) 0) _) _
 have c1:(((w.alloc (.cells #[.pointer (some ⟨b,0,none⟩)] 38)).alloc (.cells #[.int .i64 s] 3)).alloc (.cells (bkC x).toArray 60)).cell? ⟨w.heap.size+1,0,none⟩=some (.int .i64 s):=
  zl (za (zc _ _ oe) 0) _
 have c2:(((w.alloc (.cells #[.pointer (some ⟨b,0,none⟩)] 38)).alloc (.cells #[.int .i64 s] 3)).alloc (.cells (bkC x).toArray 60)).rangeAt (w.heap.size+1+1) 0 (bkC x):=fun j v ah=>by
  rw[za (zc _ _ oe)];simpa using ah
 have N:(((w.alloc (.cells #[.pointer (some ⟨b,0,none⟩)] 38)).alloc (.cells #[.int .i64 s] 3)).alloc (.cells (bkC x).toArray 60)).heap.size=w.heap.size+3:=oe;generalize (((w.alloc (.cells #[.pointer (some ⟨b,0,none⟩)] 38)).alloc (.cells #[.int .i64 s] 3)).alloc (.cells (bkC x).toArray 60))=ai at E X c1 c2 N⊢;have aa:Dv S ai b F O P:=a7.o.1.keep E (fun _ _ h=>h);have V:=Y4 aa E c2 N;clear aa E c2 N;refine(zev V.o.1 s).mono ?_;rintro e ab ⟨rfl,rfl⟩;by_cases J:hasC F.length s=0
 .have G:=qqh J;rw[J];clear J;go_wp2_with fail
  obtain⟨Y,L,hx,M⟩:=a7.o;obtain⟨-,E,c2,N⟩:=V.o;have ad:∀j,((S j/\j<w.heap.size)\/w.heap.size+3<=j)->S j:=by
   rintro j (⟨h,-⟩|h)
   .exact h
   .exact L j oM
  have ae:Dv (fun j=>(S j/\j<w.heap.size)\/w.heap.size+3<=j) ab b F O P:=(Y.kI (fun j q aj=> .inl ⟨q,aj⟩)).keep E (fun _ _ h=>h);have W:=Y.sb;have Z:=tO G.o;have H:=Y2 ad E;have ao:=qqh G.o;refine(RU ae 20 81 _ (fun af=>Dv (fun j=>(S j/\j<w.heap.size)\/w.heap.size+3<=j) af b F (O++[(s.toNat,x)]) P.tail/\Upd (fun j=>(S j/\j<w.heap.size)\/w.heap.size+3<=j) ab af) (fun _ _=>rfl) ?_).mono ?_
  .intro ap w1 ak U;have a6:∀k,¬w.heap.size+k=b:=fun k=>oM;refine(As ak (fun j q=> .inr (by have:=U.size;omega)) s.toNat x Z.2 hx M (U.j3 X (a6 0)) (by rw[Z.1];exact U.j3 c1 (a6 1)) (U.range c2 (a6 2)) oM oM oM).mono ?_;rintro e w' ⟨rfl,A,D⟩;exact⟨rfl,A,(U.mono (fun j _ q=>q▸ .inl ⟨W.1,W.2⟩)).trans D⟩
  .clear ae Y L hx M E c2 N ad X c1 Z;have ag:=qqh W;clear W;rintro e aq (⟨h1,rfl,A,D⟩|⟨h1,rfl,A,D⟩|⟨h1,h2,rfl,A,D⟩)
   .have p:=Y3 h1 A D;clear h1 A D;go_wp2
    go_ret
    exact .inr (.inl ⟨G.o,p.out.1,rfl,p.out.2.1.wide H.o.1,(H.o.2.mono fE).trans (p.out.2.2.mono (fun j _ q=>q▸ag.o.1))⟩)
   .have p:=Y3 h1 A D;clear h1 A D;go_wp2
    go_ret
    exact .inr (.inr (.inl ⟨G.o,p.out.1,rfl,p.out.2.1.wide H.o.1,(H.o.2.mono fE).trans (p.out.2.2.mono (fun j _ q=>H.o.1 j q))⟩))
   .have p:=Y4 h1 h2 A D;clear h1 h2 A D;go_wp2
    go_ret
    exact .inr (.inr (.inr ⟨G.o,p.out.1,p.out.2.1,rfl,p.out.2.2.1.wide H.o.1,(H.o.2.mono fE).trans (p.out.2.2.2.mono (fun j _ q=>q▸ag.o.1))⟩))
 .have G:=qqh J;have hz':(hasC F.length s==0)=false:=by simpa using J
  clear J;go_wp2
  go_ret
  exact .inl ⟨G.o,rfl,V.o.1,V.o.2.1.mono fE⟩
theorem wK(a b:Nat)(j:a<4611686018427387904)(p:b<4611686018427387904):bits .xor .i64 (a:Int) (b:Int)=((a^^^b:Nat):Int):=by
 have hx:a^^^b<2^62:=Nat.xor_lt_two_pow oM oM;have h1:(BitVec.ofInt 64 (a:Int)).toNat=a:=by rw[qxm,qxn];exact qXt oM
 have h2:(BitVec.ofInt 64 (b:Int)).toNat=b:=by rw[qxm,qxn];exact qXt oM
 show IntKind.i64.wrap ((BitVec.ofInt 64 (a:Int)^^^BitVec.ofInt 64 (b:Int)).toNat:Int)=_;rw[BitVec.toNat_xor,h1,h2,IntKind.wrap_i64];omega
theorem uO(a b:Nat)(j:a<4611686018427387904)(p:b<4611686018427387904):bits .and .i64 (a:Int) (b:Int)=((a&&&b:Nat):Int):=by
 have hx:a&&&b<2^62:=Nat.and_lt_two_pow _ oM;have h1:(BitVec.ofInt 64 (a:Int)).toNat=a:=by rw[qxm,qxn];exact qXt oM
 have h2:(BitVec.ofInt 64 (b:Int)).toNat=b:=by rw[qxm,qxn];exact qXt oM
 show IntKind.i64.wrap ((BitVec.ofInt 64 (a:Int)&&&BitVec.ofInt 64 (b:Int)).toNat:Int)=_;rw[BitVec.toNat_and,h1,h2,IntKind.wrap_i64];omega
theorem Xr(a b:Nat)(j:a<4611686018427387904)(p:b<4611686018427387904):bits .or .i64 (a:Int) (b:Int)=((a|||b:Nat):Int):=by
 have hx:a|||b<2^62:=Nat.or_lt_two_pow oM oM
 have h1:(BitVec.ofInt 64 (a:Int)).toNat=a:=by rw[qxm,qxn];exact qXt oM
 have h2:(BitVec.ofInt 64 (b:Int)).toNat=b:=by rw[qxm,qxn];exact qXt oM
 show IntKind.i64.wrap ((BitVec.ofInt 64 (a:Int)|||BitVec.ofInt 64 (b:Int)).toNat:Int)=_;rw[BitVec.toNat_or,h1,h2,IntKind.wrap_i64];omega
def nibT:List Nat:=[0,274646895,549293790,820201905,1098587580,1361435347,1640403810,1905808397,2197175160,2460548119,2722870694,2987750089,3280807620,3553878443,3811616794,4084100981]
def nibC(i:Nat):Nat:=nibT.getD i 0
theorem UC(i:Nat):nibC i<4294967296:=by
 unfold nibC nibT;by_cases h:i<16
 .have:i=0\/i=1\/i=2\/i=3\/i=4\/i=5\/i=6\/i=7\/i=8\/i=9\/i=10\/i=11\/i=12\/i=13\/i=14\/i=15:=oM;rcases this with rfl|rfl|rfl|rfl|rfl|rfl|rfl|rfl|rfl|rfl|rfl|rfl|rfl|rfl|rfl|rfl<;>decide
 .rw [qyg,qyl og];decide
def stepC(s f:Nat):Nat:=(s/16)^^^nibC ((s^^^f)&&&15)
theorem rk{f:Nat}(h:s<4294967296):stepC s f<4294967296:=by
 unfold stepC;exact Nat.xor_lt_two_pow (n:=32) oM (UC _)
def UD(s:Nat)(b:UInt8):Nat:=stepC (stepC s (b.toNat&&&15)) (b.toNat/16)
theorem byteC_lt{b:UInt8}(h:s<4294967296):UD s b<4294967296:=rk (rk h)
def sumC(xs:List UInt8):Nat:=xs.foldl UD 4294967295
theorem Qe(xs:List UInt8)(b:UInt8):sumC (xs++[b])=UD (sumC xs) b:=by simp[sumC]
theorem Yf(xs:List UInt8):sumC xs<4294967296:=by
 have:∀(xs:List UInt8) (s:Nat),s<4294967296->xs.foldl UD s<4294967296:=by
  intro xs
  induction xs with
  |nil=>intro s h;exact h
  |cons b xs j=>intro s h;exact j _ (byteC_lt h)
 exact this xs _ oM
def crcC(xs:List UInt8):Nat:=sumC xs^^^4294967295
theorem uP(xs:List UInt8):crcC xs<4294967296:=Nat.xor_lt_two_pow (n:=32) (Yf xs) de
def lowB(n:Nat):Nat->List UInt8
 |0=>[]
 |k+1=>UInt8.ofNat n::lowB (n/256) k
theorem yi(n k:Nat):(lowB n k).length=k:=by
 induction k generalizing n with
 |zero=>rfl
 |succ k h=>simp[lowB,h]
def numB:List UInt8->Nat
 |[]=>0
 |b::l=>b.toNat+256*numB l
theorem Xs(n k:Nat)(h:n<256^k):numB (lowB n k)=n:=by
 induction k generalizing n with
 |zero=>simp at h;subst h;rfl
 |succ k j=>
  simp only[lowB,numB];rw[j (n/256) (by rw[Nat.div_lt_iff_lt_mul oM];rw[Nat.pow_succ]at h;exact h)];have:(UInt8.ofNat n).toNat=n%256:=oe;rw[this];omega
def sealB(b:Bk):Bk:=b.take 60++lowB (crcC (b.take 60)) 4
theorem vN{b:Bk}(h:b.length=64):(sealB b).length=64:=by simp[sealB,yi,h]
theorem Vh{b:Bk}(h:b.length=64):(sealB b).take 60=b.take 60:=by
 exact List.take_left' (by simp[h])
theorem Vi{b:Bk}(h:b.length=64):sealB (sealB b)=sealB b:=by
 show(sealB b).take 60++_=_;rw[Vh h];rfl
def idxI(l:List Int)(k:Int):Int:=match l.findIdx? (·==k)with|some i=>(i:Int)|none=> -1
theorem RX{l:List Int}{k:Int}{i:Nat}(p:i<l.length)(q:l[i]=k)(A:∀j (h:j<l.length),j<i->l[j]≠k):idxI l k=i:=by
 unfold idxI;have:l.findIdx? (·==k)=some i:=by
  rw[List.findIdx?_eq_some_iff_getElem];exact⟨p,by simpa using q,fun j D=>by simpa using A j oM D⟩
 rw[this]
theorem Zu{l:List Int}{k:Int}(j:∀h (q:h<l.length),l[h]≠k):idxI l k= -1:=by
 unfold idxI;have:l.findIdx? (·==k)=none:=by
  rw[List.findIdx?_eq_none_iff];intro x hx;obtain⟨h,p,rfl⟩:=qyw hx;simpa using j h p
 rw[this]
theorem Vj{l:List Int}(h:Rd w 1 v l.length (ints l))(N:l.length<=4096)(k:Int):
  Calls prog 373 #[v,.int .i64 k] w fun e w'=>e=.returned (.int .i64 (idxI l k))/\w'=w:=by
 have H:=qqh h;obtain⟨U,c,rfl⟩:=h.j6;clear h;go_enter func373,ntmps373
 go_wp2
 go_loopg[8] l.length (fun g i wr=>∃j:Nat,j+g=l.length/\i=.int .i64 j/\(∀m (h:m<l.length),m<j->l[m]≠k)/\wr=w)
 case atStart=>exact⟨0,oM,rfl,fun m h q=>oM,rfl⟩
 case round=>
  obtain⟨j,V,rfl,A,rfl⟩:=hrel;by_cases hlt:j<l.length
  .obtain ⟨g,off,W,J,X,E⟩:=H.o.at oM;cases J;have Y:=E j _ (yh hlt);have G:=qqh A;clear E A;by_cases p:l[j]=k
   .have L:(k==l[j])=true:=by simp[p]
    have D:Hid (idxI l k=j):=RX hlt p G.o;clear p;go_wp2
    go_ret
    exact⟨by rw[D.out];rfl,rfl⟩
   .have L:(k==l[j])=false:=by simp;exact fun e=>p e.symm
    have M:Hid (l[j]≠k):=p;clear p;go_wp2
    go_roundg (gk-1)
    case measure=>omega
    case rel=>exact⟨j+1,oM,by go_num,fun m q Z=>by
     by_cases e:m=j
     .subst e;exact M.out
     .exact G.o m q oM,rfl⟩
  .obtain rfl:j=l.length:=oM;have D:Hid (idxI l k= -1):=Zu (fun m q=>A m q q);clear A;go_wp2
   go_ret
   exact⟨by rw[D.out];rfl,rfl⟩
theorem qqu{o:Obj}(h:w1=w.alloc o):Upd (fun _=>False) w w1:=by rw[h];exact (Upd.refl _ w).alloc _
theorem qqb(h:Below w.heap.size w w1):Upd (fun _=>False) w w1:=Upd.of_below h
theorem qqg{o:Obj}(h:w1=w.alloc o):w1.heap[w.heap.size]?=some o:=by rw[h];exact zc w _ rfl
theorem uur:type_of% @Upd.refl:=@Upd.refl
theorem uuo:type_of% @Upd.of_below:=@Upd.of_below
end Go.Proofs.YtpejdgiccaijfaaGreatDoor
