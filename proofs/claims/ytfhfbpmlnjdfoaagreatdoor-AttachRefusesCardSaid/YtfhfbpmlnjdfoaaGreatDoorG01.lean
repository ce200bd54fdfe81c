/- Words on world -/
import Derived.Test.YtfhfbpmlnjdfoaaGreatDoorG00
import Derived.WalkKit
import Derived.ProofKit
import Derived.OpenShut
import Derived.Handy
import Derived.Deep.QuietTactic
import Derived.BigQuiet
import Derived.StillTailTactics
import Derived.Lib.Hide
import Derived.Deep.LoopGhost
import Derived.Deep.DeepCutAuto
import Derived.Deep.RegionHeld3
import Derived.Deep.MidRow
import Derived.Deep.RegionWith
import Derived.WalkSpells
import Derived.WalkMore
import Derived.Test.YtfhfbpmlnjdfoaaGreatDoorProg
import Derived.Stop.BytesEq
import Derived.Laws.ResultCell
import Derived.Great.BuildSlice
set_option maxRecDepth 100000
namespace Go.Proofs.YtfhfbpmlnjdfoaaGreatDoor
open Go Go.RowKit Tryz
structure Upd(S:Nat->Prop)(w w':World):Prop where
 os:w'.os=w.os
 tape:w'.tape=w.tape
 output:w'.output=w.output
 size:w.heap.size<=w'.heap.size
 block:∀k,k<w.heap.size->¬S k->w'.heap[k]?=w.heap[k]?
namespace Upd
theorem refl(S:Nat->Prop)(w:World):Upd S w w:=⟨rfl,rfl,rfl,qXv _,fun _ _ _=>rfl⟩
theorem trans{S:Nat->Prop}{a b c:World}(h:Upd S a b)(k:Upd S b c):Upd S a c:=
 ⟨k.os.trans h.os,k.tape.trans h.tape,k.output.trans h.output,qXx h.size k.size,
  fun i hi hs=>(k.block i (qXy hi h.size) hs).trans (h.block i hi hs)⟩
theorem mono{S S':Nat->Prop}{a b:World}(h:Upd S a b)(hs:∀k,k<a.heap.size->S k->S' k):Upd S' a b:=
 ⟨h.os,h.tape,h.output,h.size,fun i hi hn=>h.block i hi fun hS=>hn (hs i hi hS)⟩
theorem drew{S:Nat->Prop}{a w:World}(h:Upd S a w):Upd S a w.drew:=⟨h.os,h.tape,h.output,h.size,h.block⟩
theorem drewN{S:Nat->Prop}{a w:World}(h:Upd S a w)(n:Nat):Upd S a (w.drewN n):=⟨h.os,h.tape,h.output,h.size,h.block⟩
theorem alloc{S:Nat->Prop}{a w:World}(h:Upd S a w)(o:Obj):Upd S a (w.alloc o):=
 h.trans ⟨rfl,rfl,rfl,oe,fun k hk _=>qxk _ _ _ hk⟩
theorem setCell{S:Nat->Prop}{a w:World}(h:Upd S a w)(p:Addr)(hp:p.block<a.heap.size->S p.block)(u:Value):Upd S a (w.setCell p u):=
 ⟨h.os,h.tape,h.output,by simpa using h.size,fun k hk hs=>by
  rw[Below.heap_setCell]
  .exact h.block k hk hs
  .rintro rfl;exact hs (hp hk)⟩
theorem below{a w:World}(h:Upd (fun _=>False) a w):Below a.heap.size a w:=
 ⟨h.os,h.tape,h.output,h.size,fun k hk=>h.block k hk id⟩
theorem of_below{S:Nat->Prop}{a w:World}(h:Below a.heap.size a w):Upd S a w:=
 ⟨h.os,h.tape,h.output,h.size,fun k hk _=>h.block k hk⟩
theorem new{S S':Nat->Prop}{a w w':World}(h:Upd S' a w)(k:Upd S w w')(hs:∀i,i<a.heap.size->S i->S' i):Upd S' a w':=
 ⟨k.os.trans h.os,k.tape.trans h.tape,k.output.trans h.output,qXx h.size k.size,
  fun i hi hn=>(k.block i (qXy hi h.size) fun hS=>hn (hs i hi hS)).trans (h.block i hi hn)⟩
theorem cell{S:Nat->Prop}{w w':World}(h:Upd S w w'){p:Addr}(hp:p.block<w.heap.size)(hs:¬S p.block):w'.cell? p=w.cell? p:=
 World.cell?_of_block (w:=w) (h.block p.block hp hs)
theorem frozen{S:Nat->Prop}{w w':World}(h:Upd S w w'){p:Addr}(hp:p.block<w.heap.size)(hs:¬S p.block):w'.frozen? p=w.frozen? p:=
 World.frozen?_of_block (w:=w) (h.block p.block hp hs)
theorem cellAt{S:Nat->Prop}{w w':World}(h:Upd S w w'){b o:Nat}(hp:b<w.heap.size)(hs:¬S b):w'.cell? ⟨b,o,none⟩=w.cell? ⟨b,o,none⟩:=h.cell (p:=⟨b,o,none⟩) hp hs
theorem frozenAt{S:Nat->Prop}{w w':World}(h:Upd S w w'){b o:Nat}(hp:b<w.heap.size)(hs:¬S b):w'.frozen? ⟨b,o,none⟩=w.frozen? ⟨b,o,none⟩:=h.frozen (p:=⟨b,o,none⟩) hp hs
theorem lt{S:Nat->Prop}{w w':World}(h:Upd S w w'){k:Nat}(hk:k<w.heap.size):k<w'.heap.size:=qXy hk h.size
end Upd
theorem zf{w:World}{b:Nat}{o:Obj}(h:w.heap[b]?=some o):b<w.heap.size:=(Array.getElem?_eq_some_iff.1 h).1
theorem za{w:World}{b:Nat}{cs:Array Value}{T:TypeId}{fz:Nat×Nat}(h:w.heap[b]?=some (.cells cs T fz))(i:Nat):w.cell? ⟨b,i,none⟩=cs[i]?:=by
 simp[World.cell?,h]
theorem zg{w:World}{b:Nat}{cs:Array Value}{T:TypeId}(h:w.heap[b]?=some (.cells cs T (0,0)))(i:Nat):w.frozen? ⟨b,i,none⟩=false:=by
 simp[World.frozen?,h]
theorem zi{w:World}{b:Nat}{cs:Array Value}{T:TypeId}{fz:Nat×Nat}(h:w.heap[b]?=some (.cells cs T fz))(i:Nat)(u:Value):
  (w.setCell ⟨b,i,none⟩ u).heap[b]?=some (.cells (cs.setIfInBounds i u) T fz):=by
 simp[World.setCell,Array.getElem?_modify,h]
theorem zc(w:World)(o:Obj){n:Nat}(h:n=w.heap.size):(w.alloc o).heap[n]?=some o:=by
 subst h;show(w.heap.push o)[w.heap.size]?=_;simp
def Wl(_:List Nat)(G:Prop):Prop:=G
namespace Wl
theorem i{G:Prop}(l:List Nat)(h:Wl l G):G:=h
theorem o{G:Prop}(h:G):Wl [] G:=h
section
variable{P:Program}{md:Region.Mode}{ops:Array Oper}{Q:Exit->Act->World->Prop}{S:World->Prop}{k:Nat}{oi:Oper}{v:Value}{fuel:Nat}{listed:Array Bool}{a a':Act}{w:World}{ks:List Nat}
theorem t(hS:S w)(h:Wl ks (wpAnyH P md ops Q S fuel (listed.setIfInBounds k true) a' w))(hi:ops[k]?=some oi:=by rfl)(hs:Region.noSelect ops=true:=by kernel_rfl)(hf:Region.free md ops listed k=true:=by kernel_rfl)
  (hr:(Region.ready md ops listed).contains k=true:=by kernel_rfl) (hQ:∀c a w,Q (.panic c) (a.put oi.dst v) w->Q (.panic c) a w:=by exact fun _ _ _ h=>h)
  (hy:YieldsIf P ops S oi v a:=by first|(refine Or.inr ⟨?_,rfl⟩;rfl)|(refine Or.inl ⟨?_,?_⟩;rfl;intro W hSw;(try dsimp only at hSw);(try go_split_ands);go_simp;(try with_reducible rfl)))
  (ha:a.put oi.dst v=a':=by simp only[qzc,qyw,qyx,Act.put,qXi,qXl,qXk];rfl):Wl (k::ks) (wpAnyH P md ops Q S (fuel+1) listed a w):=
 qZf hi hs hf hr hQ hy hS (ha▸h)
theorem l(k:Nat){ty:TypeId}{x:Operand}{b o:Nat}{cs:List Value}{d:TypeDesc}(hS:∀w,S w->w.rangeAt b o cs)(hu:P.underlying ty=some d)(hz:(P.info? ty).map (·.size)=some cs.length)(hw:S w)
  (h:wpAnyH P md ops Q S fuel (listed.setIfInBounds k true) a' w) (hi:ops[k]?=some oi:=by rfl) (hs:Region.noSelect ops=true:=by kernel_rfl) (hf:Region.free md ops listed k=true:=by kernel_rfl)
  (hr:(Region.ready md ops listed).contains k=true:=by kernel_rfl) (hQ:∀c a w,Q (.panic c) (a.put oi.dst (.agg cs.toArray)) w->Q (.panic c) a w:=by exact fun _ _ _ h=>h)
  (hg:Region.wanted oi (yielded ops a.tmps)=true:=by rfl) (ho:oi.op=.load ty x:=by rfl) (hx:a.eval x=.pointer (some ⟨b,o,none⟩):=by rfl) (hd:d.isRow=true:=by rfl)
  (ha:a.put oi.dst (.agg cs.toArray)=a':=by simp only[qzc,qyw,qyx,Act.put,qXi,qXl,qXk];rfl):wpAnyH P md ops Q S (fuel+1) listed a w:=
 qZf hi hs hf hr hQ (qZl hg ty x ho b o hx cs d hS hu hd hz) hw (ha▸h)
theorem r(k:Nat)(h:∀K':Act->World->Prop,Shut (∀a w,S w->(S w->wpAnyH P md ops Q S fuel (listed.setIfInBounds k true) a w)->K' a w)->if Region.wanted oi (yielded ops a.tmps)=true then Oper.wp P oi a w K' Q else K' (a.put oi.dst undef) w)
  (hi:ops[k]?=some oi:=by rfl) (hr:Region.ready md ops listed=[k]:=by kernel_rfl):wpAnyH P md ops Q S (fuel+1) listed a w:=
 qZe hr oe (qxb hi h qxc)
theorem d(h:Q .normal a w)(hr:Region.ready md ops listed=[]:=by kernel_rfl):wpAnyH P md ops Q S fuel listed a w:=wpAnyH_done hr h _
end
end Wl
def Sl(w:World)(e:TypeId)(k:Nat)(v:Value)(n:Nat)(xs:List Value):Prop:=
 xs.length=n*k/\((v=.slice none 0 0/\n=0)\/
  ∃g off cap cur,v=.slice (some ⟨g,off,none⟩) n cap/\w.heap[g]?=some (.cells cur e (0,0))/\n<=cap/\cap<=maxLen/\off+cap*k<=cur.size/\
   ∀j u,xs[j]?=some u->cur[off+j]?=some u)
def Rd(w:World)(k:Nat)(v:Value)(n:Nat)(xs:List Value):Prop:=
 xs.length=n*k/\n<=maxLen/\∃ao cap,v=.slice ao n cap/\(ao=none->n=0)/\∀b,ao=some b->∀j u,xs[j]?=some u->w.cell? (b.add j)=some u
section
variable{w w':World}{e:TypeId}{k n:Nat}{v:Value}{xs:List Value}
theorem Sl.nil(w:World)(e:TypeId)(k:Nat):Sl w e k (.slice none 0 0) 0 []:=⟨oe,.inl ⟨rfl,rfl⟩⟩
theorem Sl.rd(h:Sl w e k v n xs):Rd w k v n xs:=by
 obtain⟨hl,⟨rfl,rfl⟩|⟨g,off,cap,cur,rfl,hg,hn,hm,hs,hc⟩⟩:=h
 .exact ⟨hl,qYf _,none,0,rfl,fun _=>rfl,fun b hb=>by cases hb⟩
 .refine ⟨hl,qXx hn hm,some ⟨g,off,none⟩,cap,rfl,(fun h=>by cases h),(fun b hb=>?_)⟩;cases hb;intro j u hu;rw[qxa,za hg];exact hc j u hu
theorem Sl.len(h:Sl w e k v n xs):xs.length=n*k:=h.1
theorem Rd.le(h:Rd w k v n xs):n<=maxLen:=h.2.1
theorem Sl.le(h:Sl w e k v n xs):n<=maxLen:=h.rd.le
theorem Sl.lt(h:Sl w e k v n xs){g:Nat}(hg:v.ownBlock=some g):g<w.heap.size:=by
 obtain⟨_,⟨rfl,rfl⟩|⟨g',off,cap,cur,rfl,hg',_⟩⟩:=h
 .simp [Value.ownBlock]at hg
 .simp [Value.ownBlock]at hg;subst hg;exact zf hg'
theorem Sl.keep(h:Sl w e k v n xs){S:Nat->Prop}(hu:Upd S w w')(hs:∀g,v.ownBlock=some g->¬S g):Sl w' e k v n xs:=by
 refine⟨h.1,?_⟩;rcases h.2 with hn|⟨g,off,cap,cur,rfl,hg,rest⟩
 .exact .inl hn
 .exact .inr ⟨g,off,cap,cur,rfl,(hu.block g (zf hg) (hs g rfl)).trans hg,rest⟩
theorem Sl.same(h:Sl w e k v n xs)(hb:∀g,v.ownBlock=some g->w'.heap[g]?=w.heap[g]?):Sl w' e k v n xs:=by
 refine⟨h.1,?_⟩;rcases h.2 with hn|⟨g,off,cap,cur,rfl,hg,rest⟩
 .exact .inl hn
 .exact .inr ⟨g,off,cap,cur,rfl,(hb g rfl).trans hg,rest⟩
theorem zN{w:World}{a:Addr}{u:Value}(h:w.cell? a=some u):a.spot=none/\a.block<w.heap.size:=by
 refine⟨?_,qYn w a h⟩;unfold World.cell? at h;split at h
 .split at h
  .cases h
  .rename_i hs;simpa using hs
 .cases h
theorem Rd.keep(h:Rd w k v n xs){S:Nat->Prop}(hu:Upd S w w')(hs:∀g,v.ownBlock=some g->¬S g):Rd w' k v n xs:=by
 obtain⟨hl,hm,ao,cap,rfl,h0,hc⟩:=h;refine⟨hl,hm,ao,cap,rfl,h0,fun b hb j u hj=>?_⟩;have h1:=hc b hb j u hj;have hblk:(b.add j).block=b.block:=by unfold Addr.add;split<;>rfl
 subst hb;rw[hu.cell (zN h1).2 (by rw[hblk];exact hs b.block rfl)];exact h1
theorem Rd.j7(h:Rd w k v n xs):∃ao cap,v=.slice ao n cap:=by obtain⟨_,_,ao,cap,rfl,_⟩:=h;exact⟨ao,cap,rfl⟩
theorem Rd.at(h:Rd w k v n xs)(hn:0<n)(hk:0<k:=by decide):∃bl off cap,v=.slice (some ⟨bl,off,none⟩) n cap/\bl<w.heap.size/\∀j u,xs[j]?=some u->w.cell? ⟨bl,off+j,none⟩=some u:=by
 obtain⟨hl,hm,ao,cap,rfl,h0,hc⟩:=h;cases ao with
 |none=>have:=h0 rfl;omega
 |some b=>
  have hc:=hc b rfl;have hx:0<xs.length:=by rw[hl];exact Nat.mul_pos hn hk
  obtain⟨hs,hb⟩:=zN (hc 0 _ (qyn hx));obtain⟨bl,off,sp⟩:=b;have hsp:sp=none:=by unfold Addr.add at hs;split at hs<;>simp_all
  subst hsp;rw[qxa]at hb;exact⟨bl,off,cap,rfl,hb,fun j u hj=>by have:=hc j u hj;rwa[qxa]at this⟩
theorem Sl.at(h:Sl w e k v n xs)(hn:0<n):∃g off cap cur,v=.slice (some ⟨g,off,none⟩) n cap/\w.heap[g]?=some (.cells cur e (0,0))/\off+n*k<=cur.size/\∀j u,xs[j]?=some u->cur[off+j]?=some u:=by
 obtain⟨hl,⟨rfl,rfl⟩|⟨g,off,cap,cur,rfl,hg,hnc,hm,hs,hc⟩⟩:=h
 .omega
 .exact ⟨g,off,cap,cur,rfl,hg,by have:=qYb k hnc;omega,hc⟩
theorem zC:∀(vs:List Value) (o:Nat) (w:World) (b:Nat) (cur:Array Value) (T:TypeId) (fz:Nat×Nat),w.heap[b]?=some (.cells cur T fz)->
  ∃cur',(w.setCells b o vs).heap[b]?=some (.cells cur' T fz)/\cur'.size=cur.size/\∀i,cur'[i]?=if o<=i/\i<o+vs.length/\i<cur.size then vs[i-o]? else cur[i]?:=by
 intro vs
 induction vs with
 |nil=>intro o w b cur T fz h;exact⟨cur,h,rfl,fun i=>by rw[if_neg oh]⟩
 |cons v vs ih=>
  intro o w b cur T fz h;have h1:=zi h o v;obtain⟨cur',h2,h3,h4⟩:=ih (o+1) (w.setCell ⟨b,o,none⟩ v) b _ T fz h1;refine⟨cur',h2,by simpa using h3,fun i=>?_⟩;rw[h4];by_cases hi:o=i
  .subst hi;rw[if_neg oM];by_cases hs:o<cur.size
   .rw [if_pos ⟨oM,oe,hs⟩];simp[hs]
   .rw [if_neg oM];simp[hs]
  .by_cases hr:o+1<=i/\i<o+1+vs.length/\i<cur.size
   .rw [if_pos (by simpa using hr),if_pos ⟨oM,by simp;omega,hr.2.2⟩];have:i-o=(i-(o+1))+1:=oM;rw[this,qyk]
   .rw [if_neg (by simpa using hr),if_neg (by simp at hr⊢;omega)];rw[qxg hi]
theorem yq(S:Nat->Prop)(w:World)(b o:Nat)(vs:List Value)(hS:S b):Upd S w (w.setCells b o vs):=by
 have:∀(vs:List Value) (o:Nat) (a w:World),Upd S a w->Upd S a (w.setCells b o vs):=by
  intro vs
  induction vs with
  |nil=>intro o a w h;exact h
  |cons v vs ih=>intro o a w h;exact ih _ _ _ (h.setCell ⟨b,o,none⟩ (fun _=>hS) v)
 exact this vs o w w (Upd.refl _ _)
theorem Upd.kB{S:Nat->Prop}{w w':World}{row:Option Nat}(h:w.grownBy w' row)(hS:∀g,row=some g->g<w.heap.size->S g):Upd S w w':=
 ⟨h.os,h.tape,h.output,h.size,fun j hj hn=>h.block j hj (fun e=>hn (hS j e.symm hj))⟩
theorem Sl.of_own{base:Nat}(h:w.ownsRow base e k v n xs):Sl w e k v n xs:=by
 refine⟨h.1,?_⟩;rcases h.2 with hn|⟨g,cap,cur,rfl,hb,hg,hnc,hcm,hcs,ht⟩
 .exact .inl hn
 .refine .inr ⟨g,0,cap,cur,rfl,hg,hnc,hcm,oM,fun j u hu=>?_⟩;rw[<-ht,qyu]at hu;split at hu
  .simpa using hu
  .cases hu
def ownS(v:Value):Nat->Prop:=fun g=>v.ownBlock=some g
def From(B:Nat)(v:Value):Prop:=∀g,v.ownBlock=some g->B<=g
theorem From.nil(B n c:Nat):From B (.slice none n c):=fun g h=>by cases h
theorem From.mono{B B':Nat}{v:Value}(h:From B v)(hb:B'<=B):From B' v:=fun g hg=>qXx hb (h g hg)
theorem From.own{B:Nat}{v:Value}(h:From B v):∀k,ownS v k->B<=k:=h
def blockFrom(w:World)(v v':Value):Prop:=v'.ownBlock=v.ownBlock\/∃g,v'.ownBlock=some g/\w.heap.size<=g
theorem zE{P:Program}{ops:Array Oper}{rest:List Oper}{o:Oper}{a:Act}{Q:Exit->Act->World->Prop}(hgd:o.guard=none)(s x:Operand)(t:TypeId)
  (ho:o.op=.call {callee:=.builtin .append,args:= #[s,x],argTypes:= #[t,t]})
  (i:TypeInfo) (z:Value) (bytes:Nat) (ht:P.underlying t=some (.slice e)) (hi:P.info? e=some i) (hz:i.zero=some z)
  (hsize:i.size=k) (hby:i.bytes=bytes) (hzs:z.cells.size=k) (hsz:0<k)
  (hs:a.eval s=v) (hown:Sl w e k v n xs)
  (x':Value) (m:Nat) (news:List Value) (hx:a.eval x=x') (hr:Rd w k x' m news) (h1:∀u∈news,u.oneCell'=true)
  (h63:n+m<=maxLen) (hbytes:(n+m)*bytes<=140737488355328)
  (h:∀v' w',Sl w' e k v' (n+m) (xs++news)->Upd (ownS v) w w'->blockFrom w v v'->wpList P ops Q rest (a.put o.dst v') w'):wpList P ops Q (o::rest) a w:=by
 obtain⟨hnl,hml,ao,xc,rfl,hx0,hxc⟩:=hr;cases ao with
 |none=>
  have hm0:=hx0 rfl;subst hm0;obtain rfl:news=[]:=qyd ke;have hrun:(Builtin.append_ #[t,t] o.type #[v,.slice none 0 xc]).run P w=.ok v w:=by
   obtain⟨_,⟨rfl,rfl⟩|⟨g,off,cap,cur,rfl,hg,hnc,hcm,hcs,hcell⟩⟩:=hown
   .simp [Builtin.append_,run_underlying ht,sizeOf,typeInfo,hi,Builtin.lenOf,Builtin.firstCells]
   .simp [Builtin.append_,run_underlying ht,sizeOf,typeInfo,hi,Builtin.lenOf,Builtin.firstCells,hnc,storeCells]
  refine qZh hgd fun K hK'=>?_;unfold Oper.wp;simp[execOp,ho,resolve,invoke,builtin,hs,hx,hrun,Result.andThen];exact hK' _ _ (h v w (by simpa using hown) (Upd.refl _ _) (.inl rfl))
 |some ad=>
 have hac':=hxc ad rfl;have hown':=hown;obtain⟨hl,⟨rfl,rfl⟩|⟨g,off,cap,cur,rfl,hg,hnc,hcm,hcs,hcell⟩⟩:=hown
 .obtain rfl:xs=[]:=qyd jN;by_cases hm0:m=0
  .subst hm0;obtain rfl:news=[]:=qyd ke;have hrun:(Builtin.append_ #[t,t] o.type #[.slice none 0 0,.slice (some ad) 0 xc]).run P w=.ok (.slice none 0 0) w:=by
    simp[Builtin.append_,run_underlying ht,sizeOf,typeInfo,hi,Builtin.lenOf,Builtin.firstCells,loadCells,loadCellsFrom]
   refine qZh hgd fun K hK'=>?_;unfold Oper.wp;simp[execOp,ho,resolve,invoke,builtin,hs,hx,hrun,Result.andThen];exact hK' _ _ (h _ w (by simpa using hown') (Upd.refl _ _) (.inl rfl))
  .refine wpList_append_grows w hgd s x t ho e i z k bytes ht hi hz hsize hby hzs hsz none 0 0 [] hs (fun _=>⟨rfl,rfl⟩) oe (fun b hb=>by cases hb) ad m xc news hx hnl hac' h1 oM h63 hbytes ?_;intro v' w' ho' hg';refine h v' w' (Sl.of_own ho') (Upd.kB hg' (fun g hg _=>by cases hg)) ?_;rcases ho'.2 with⟨rfl,h0⟩|⟨g',cap',cur',rfl,hb',_⟩
   .omega
   .exact .inr ⟨g',rfl,hb'⟩
 .refine wpList_append_arg w hgd s x t ho e i z k bytes ht hi hz hsize hby hzs hsz g off n cap xs hs hl (fun j u hj=>by rw[za hg];exact hcell j u hj) ad m xc news hx hnl hac' h1 ?_ h63 hbytes ?_ ?_
  .intro hroom j hj;have hj':off+n*k+j<cur.size:=by
    have:=qYb k hroom;rw[Nat.add_mul]at this;omega
   exact⟨by rw[za hg];simp[hj'],zg hg _⟩
  .intro hroom;obtain⟨cur',h2,h3,h4⟩:=zC news (off+n*k) w g cur e (0,0) hg;have hm:=qYb k hroom;rw[Nat.add_mul]at hm;refine h _ _ ⟨by rw[qzd,hl,hnl,Nat.add_mul],.inr ⟨g,off,cap,cur',rfl,h2,hroom,hcm,oM,fun j u hj=>?_⟩⟩ (yq _ w g _ news rfl) (.inl rfl);rw[h4];by_cases hj1:j<xs.length
   .rw [qyi hj1]at hj;rw[if_neg oM];exact hcell j u hj
   .rw [qyj oM]at hj;have hlt:=(qyp.1 hj).1;rw[if_pos ⟨oM,oM,oM⟩];have:off+j-(off+n*k)=j-xs.length:=oM;rw[this];exact hj
  .intro hfull v' w' ho' hg';refine h v' w' (Sl.of_own ho') (Upd.kB hg' (fun g hg _=>by cases hg)) ?_;rcases ho'.2 with⟨rfl,h0⟩|⟨g',cap',cur',rfl,hb',_⟩
   .omega
   .exact .inr ⟨g',rfl,hb'⟩
theorem Rd.fresh(w:World)(news:List Value)(e:TypeId){k m:Nat}(c:Nat)(hl:news.length=m*k)(hm:m<=maxLen):Rd (w.alloc (.cells news.toArray e)) k (.slice (some ⟨w.heap.size,0,none⟩) m c) m news:=by
 refine⟨hl,hm,some ⟨w.heap.size,0,none⟩,c,rfl,(fun h=>by cases h),(fun b hb=>?_)⟩;cases hb;intro j u hj;rw[qxa,za (zc _ _ rfl)];simpa using hj
theorem blockFrom.ge{w:World}{v v':Value}(h:blockFrom w v v'){B:Nat}(hB:B<=w.heap.size)(hv:From B v):From B v':=by
 intro g hg;rcases h with h|⟨g',h,hle⟩
 .exact hv g (by rw[<-h];exact hg)
 .rw [h]at hg;cases hg;omega
theorem zT{P:Program}{ops:Array Oper}{rest:List Oper}{o:Oper}{a:Act}{Q:Exit->Act->World->Prop}(hgd:o.guard=none)(s x:Operand)(t:TypeId)
  (ho:o.op=.call {callee:=.builtin .append,args:= #[s,x],argTypes:= #[t,t]})
  (i:TypeInfo) (z:Value) (bytes:Nat) (ht:P.underlying t=some (.slice e)) (hi:P.info? e=some i) (hz:i.zero=some z)
  (hsize:i.size=k) (hby:i.bytes=bytes) (hzs:z.cells.size=k) (hsz:0<k)
  (hs:a.eval s=v) (hown:Sl w e k v n xs) (news:List Value) (hx:a.eval x=.slice (some ⟨w.heap.size,0,none⟩) 1 1) (hl:news.length=k) (h1:∀u∈news,u.oneCell'=true)
  (h63:n+1<=maxLen) (hbytes:(n+1)*bytes<=140737488355328)
  (h:∀v' w',Sl w' e k v' (n+1) (xs++news)->Upd (ownS v) w w'->blockFrom w v v'->wpList P ops Q rest (a.put o.dst v') w'):
  wpList P ops Q (o::rest) a (w.alloc (.cells news.toArray e)):=by
 refine zE hgd s x t ho i z bytes ht hi hz hsize hby hzs hsz hs (hown.keep ((Upd.refl (fun _=>False) w).alloc _) (fun _ _ h=>h)) _ 1 news hx (Rd.fresh w news e 1 oM og) h1 h63 hbytes ?_;intro v' w' h2 h3 h4;refine h v' w' h2 (Upd.new ((Upd.refl _ _).alloc _) h3 (fun i _ h=>h)) ?_;rcases h4 with h4|⟨g,h4,h5⟩
 .exact .inl h4
 .exact .inr ⟨g,h4,by simp at h5;omega⟩
theorem Rd.below{w w':World}{k n:Nat}{v:Value}{xs:List Value}(h:Rd w k v n xs)(hb:Below w.heap.size w w'):Rd w' k v n xs:=h.keep (Upd.of_below (S:=fun _=>False) hb) (fun _ _ h=>h)
theorem zk{B:Nat}{a w w':World}{S:Nat->Prop}(h:Below B a w)(hu:Upd S w w')(hB:B<=a.heap.size)(hs:∀k,S k->B<=k):Below B a w':=
 ⟨hu.os.trans h.os,hu.tape.trans h.tape,hu.output.trans h.output,qXx h.size hu.size,fun k hk=>(hu.block k (by have:=h.size;omega) (fun hS=>by have:=hs k hS;omega)).trans (h.block k hk)⟩
theorem zR{B:Nat}{a w:World}(h:Below B a w)(n:Nat):Below B a (w.drewN n):=⟨h.os,h.tape,h.output,h.size,h.block⟩
def Dis(v u:Value):Prop:=∀g,v.ownBlock=some g->u.ownBlock=some g->False
theorem Dis.symm{v u:Value}(h:Dis v u):Dis u v:=fun g h1 h2=>h g h2 h1
theorem Dis.nil(n c:Nat)(u:Value):Dis (.slice none n c) u:=fun g h=>by cases h
theorem Dis.from{w:World}{v v' u:Value}(h:Dis v u)(hb:blockFrom w v v')(hu:∀g,u.ownBlock=some g->g<w.heap.size):Dis v' u:=by
 intro g h1 h2;rcases hb with hb|⟨g',hb,hle⟩
 .exact h g (by rw[<-hb];exact h1) h2
 .rw [hb]at h1;cases h1;have:=hu g h2;omega
theorem Sl.kS{w w':World}{e:TypeId}{k n:Nat}{v u:Value}{xs:List Value}(h:Sl w e k v n xs)(hd:Dis v u)(hu:Upd (ownS u) w w'):Sl w' e k v n xs:=
 h.keep hu (fun g hg hs=>hd g hg hs)
theorem Sl.tail{w:World}{e:TypeId}{g off n cap:Nat}{x:Value}{xs:List Value}(h:Sl w e 1 (.slice (some ⟨g,off,none⟩) (n+1) cap) (n+1) (x::xs)):
  Sl w e 1 (.slice (some ⟨g,off+1,none⟩) n (cap-1)) n xs/\(cap=1->Sl w e 1 (.slice (some ⟨g,off,none⟩) n 0) n xs)/\1<=cap:=by
 obtain⟨hl,⟨h1,_⟩|⟨g',off',cap',cur,h1,hg,hn,hm,hs,hc⟩⟩:=h
 .cases h1
 .cases h1;simp at hl;refine⟨⟨oM,.inr ⟨g,off+1,cap-1,cur,rfl,hg,oM,oM,oM,fun j u hj=>?_⟩⟩,fun hcap=>⟨oM,.inr ⟨g,off,0,cur,rfl,hg,oM,oM,oM,fun j u hj=>?_⟩⟩,oM⟩
  .have:=hc (j+1) u ow;rw[<-this];congr 1;omega
  .have:=(qyp.1 hj).1;omega
theorem Sl.kQ{w w':World}{e:TypeId}{k n:Nat}{v:Value}{xs:List Value}(h:Sl w e k v n xs){b:Nat}(hu:Upd (fun j=>j=b) w w')(hne:v.ownBlock≠some b):Sl w' e k v n xs:=
 h.keep hu (fun g hg hs=>hne (by rw[hg,hs]))
theorem zj(w:World)(b i:Nat)(u:Value):Upd (fun j=>j=b) w (w.setCell ⟨b,i,none⟩ u):=Upd.setCell (S:=fun j=>j=b) (Upd.refl _ w) ⟨b,i,none⟩ (fun _=>rfl) u
end
def ints(l:List Int):List Value:=l.map (.int .i64)
@[simp]theorem zbC:ints []=[]:=rfl
@[simp]theorem zbt (x:Int)(l:List Int):ints (x::l)=.int .i64 x::ints l:=rfl
@[simp]theorem Yw (l m:List Int):ints (l++m)=ints l++ints m:=by simp[ints]
@[simp]theorem xi (l:List Int):(ints l).length=l.length:=by simp[ints]
theorem yt{l:List Int}{j:Nat}(h:j<l.length):(ints l)[j]?=some (.int .i64 l[j]):=by simp[ints,h]
abbrev Bk:=List UInt8
def bkC(x:Bk):List Value:=x.map Go.Extern.Stop.cell
def bkV(x:Bk):Value:=.agg (bkC x).toArray
def rowC(F:List Bk):List Value:=F.flatMap bkC
theorem zo(x:Bk):(bkC x).length=x.length:=by simp[bkC]
theorem zx(x:Bk):∀v∈bkC x,v.oneCell'=true:=by intro v hv;simp only[bkC,qzv]at hv;obtain⟨b,_,rfl⟩:=hv;rfl
def All64(F:List Bk):Prop:=∀x∈F,x.length=64
theorem uc{F:List Bk}(h:All64 F):(rowC F).length=F.length*64:=by
 induction F with
 |nil=>rfl
 |cons x F ih=>
  have h1:=h x oe;have h2:=ih (fun y hy=>h y (by simp[hy]));simp only[rowC,qyg,qzd,zo]at h2⊢;rw[h1,qze];omega
theorem ue{F:List Bk}(h:All64 F){i:Nat}(hi:i<F.length){j:Nat}(hj:j<64):(rowC F)[i*64+j]?=(bkC F[i])[j]?:=by
 induction F generalizing i with
 |nil=>simp at hi
 |cons x F ih=>
  have h1:=h x oe;cases i with
  |zero=>
   simp only[rowC,qyg,qYg,qYe,qyx];rw[qyi (by rw[zo,h1];exact hj)]
  |succ i=>
   simp only[rowC,qyg,qyw];rw[qyj (by rw[zo,h1];omega),zo,h1];have:=ih (fun y hy=>h y (by simp[hy])) (i:=i) ox;rw[<-this]
   congr 1
   omega
theorem All64.set{F:List Bk}(h:All64 F)(i:Nat){x:Bk}(hx:x.length=64):All64 (F.set i x):=by
 intro y hy;rcases List.mem_or_eq_of_mem_set hy with h1|rfl
 .exact h y h1
 .exact hx
theorem sH{w:World}{g off:Nat}{cur:Array Value}{e:TypeId}{F:List Bk}(hF:All64 F)(hg:w.heap[g]?=some (.cells cur e (0,0)))(hc:∀j u,(rowC F)[j]?=some u->cur[off+j]?=some u){i:Nat}(hi:i<F.length):
  w.rangeAt g (off+i*64) (bkC F[i]):=by
 intro j v hj;have hj':=(qyp.1 hj).1;rw[zo,hF _ (qyz hi)]at hj';rw[za hg,qXr];exact hc _ _ (by rw[ue hF hi hj'];exact hj)
theorem Uu{w:World}{g off n:Nat}{cur:Array Value}{e:TypeId}(hg:w.heap[g]?=some (.cells cur e (0,0))){i:Nat}(hi:i<n)(hz:off+n*64<=cur.size):w.there g (off+i*64) 64:=by
 intro j hj;rw[za hg,zg hg];exact⟨by rw[qxe oM];rfl,rfl⟩
theorem Sl.row_set{w:World}{e:TypeId}{g off cap:Nat}{F:List Bk}(hF:All64 F)(h:Sl w e 64 (.slice (some ⟨g,off,none⟩) F.length cap) F.length (rowC F)){i:Nat}(_:i<F.length){x:Bk}(hx:x.length=64):
  Sl (w.setCells g (off+i*64) (bkC x)) e 64 (.slice (some ⟨g,off,none⟩) (F.set i x).length cap) (F.set i x).length (rowC (F.set i x)):=by
 obtain⟨hl,⟨h1,_⟩|⟨g',off',cap',cur,h1,hg,hn,hm,hs,hc⟩⟩:=h
 .cases h1
 cases h1;obtain⟨cur',hb,hz,hget⟩:=zC (bkC x) (off+i*64) w g cur e (0,0) hg;refine⟨uc (hF.set i hx),.inr ⟨g,off,cap,cur',rfl,hb,by simpa using hn,hm,oM,fun j u hj=>?_⟩⟩;have hj':=(qyp.1 hj).1;rw[uc (hF.set i hx),qzj]at hj';have hdm:j=j/64*64+j%64:=oM;have hjm:j%64<64:=qYa _ oM;have hjd:j/64<F.length:=oM;rw[hdm,ue (hF.set i hx) (by rw[qzj];exact hjd) hjm,qzb]at hj;rw[hget,zo,hx];by_cases hij:i=j/64
 .rw [if_pos hij]at hj;rw[if_pos ⟨oM,oM,oM⟩,show off+j-(off+i*64)=j%64 by omega];exact hj
 .rw [if_neg hij]at hj;rw[if_neg oM];refine hc j u ?_;rw[hdm,ue hF hjd hjm];exact hj
theorem zq(w:World)(g o:Nat)(vs:List Value):Upd (fun j=>j=g) w (w.setCells g o vs):=yq _ w g o vs rfl
theorem Uv(w:World)(cs:Array Value)(t:TypeId)(i:Nat)(v:Value):(w.alloc (.cells cs t)).setCell ⟨w.heap.size,i,none⟩ v=w.alloc (.cells (cs.setIfInBounds i v) t):=by
 simp only[World.setCell,World.alloc,World.mk.injEq,and_true];apply qxd
 intro k;rw[Array.getElem?_modify];by_cases hk:w.heap.size=k
 .subst hk;simp
 .rw [if_neg hk];by_cases hl:k<w.heap.size
  .rw [Array.getElem?_push_lt hl,Array.getElem?_push_lt hl]
  .rw [qxf oh,qxf oh]
theorem wM(w:World)(t:TypeId):∀(vs:List Value) (cs:Array Value) (o:Nat),∃cs':Array Value,(w.alloc (.cells cs t)).setCells w.heap.size o vs=w.alloc (.cells cs' t)/\cs'.size=cs.size/\∀k,cs'[k]?=if o<=k/\k<o+vs.length/\k<cs.size then vs[k-o]? else cs[k]?
 |[],cs,o=>⟨cs,rfl,rfl,fun k=>by rw[if_neg oh]⟩
 |v::vs,cs,o=>by
  obtain⟨cs',h1,h2,h3⟩:=wM w t vs (cs.setIfInBounds o v) (o+1);refine⟨cs',?_,by simpa using h2,fun k=>?_⟩
  .rw [World.setCells,Uv];exact h1
  .rw [h3 k];by_cases hk:o=k
   .subst hk;rw[if_neg oM];by_cases hs:o<cs.size
    .rw [if_pos ⟨oM,oe,hs⟩];simp[hs]
    .rw [if_neg oM];simp[hs]
   .by_cases hr:o+1<=k/\k<o+1+vs.length/\k<cs.size
    .rw [if_pos (by simpa using hr),if_pos ⟨oM,by simp;omega,hr.2.2⟩];have:k-o=(k-(o+1))+1:=oM;rw[this,qyk]
    .rw [if_neg (by simpa using hr),if_neg (by simp at hr⊢;omega),qxg hk]
theorem tI(w:World)(t:TypeId)(vs:List Value)(cs:Array Value)(h:cs.size=vs.length):(w.alloc (.cells cs t)).setCells w.heap.size 0 vs=w.alloc (.cells vs.toArray t):=by
 obtain⟨cs',h1,h2,h3⟩:=wM w t vs cs 0;rw[h1];have:cs'=vs.toArray:=by
  apply qxd
  intro k;have e:vs.toArray[k]?=vs[k]?:=oe;rw[h3 k,e];by_cases hk:k<vs.length
  .rw [if_pos ⟨oM,oM,oM⟩];rfl
  .rw [if_neg oM,qxf oM,qyo oM]
 rw[this]
theorem zl{P:Program}{ops:Array Oper}{rest:List Oper}{op:Oper}{a:Act}{w:World}{Q:Exit->Act->World->Prop}(hgd:op.guard=none)(ty:TypeId)(x y:Operand)(ho:op.op=.store ty x y)
  (zs:Array Value) (t:TypeId) (vs:List Value) (hx:a.eval x=.pointer (some ⟨w.heap.size,0,none⟩)) (hy:a.eval y=.agg vs.toArray) (hz:zs.size=vs.length)
  (hi:(P.info? ty).map (·.size)=some vs.length) (h1:∀v∈vs,v.oneCell'=true)
  (h:wpList P ops Q rest (a.put op.dst undef) (w.alloc (.cells vs.toArray t))):wpList P ops Q (op::rest) a (w.alloc (.cells zs t)):=by
 refine qZi hgd ty x y ho w.heap.size 0 vs.toArray hx hy (fun j hj=>?_) ox (qYu h1) ?_
 .rw [za (zc w _ rfl),zg (zc w _ rfl)];simp at hj;exact⟨by rw[qYe,qxe oM];rfl,rfl⟩
 .rw [List.toList_toArray,tI w t vs zs hz];exact h
theorem zt{P:Program}{fn:Func}{p u:Tmp}{ty:TypeId}(h:fn.results= #[.cell p ty,.tmp u])(tmps:Array Value)(w:World)(b o:Nat)(cs:List Value)(d:TypeDesc)
  (hp:tmps.getD p undef=.pointer (some ⟨b,o,none⟩)) (hc:w.rangeAt b o cs) (hu:P.underlying ty=some d) (hd:d.isRow=true) (hi:(P.info? ty).map (·.size)=some cs.length):
  (results fn tmps).run P w=.ok (.tuple #[.agg cs.toArray,tmps.getD u undef]) w:=by
 have hp':tmps[p]?.getD undef=.pointer (some ⟨b,o,none⟩):=by simpa using hp
 rw[results_cell_tmp h];simp[hp',asAddr,run_loadVar_mid w b o ty cs d hc hu hd hi,Result.andThen]
theorem zI{P:Program}{fn:Func}{p:Tmp}{ty:TypeId}(h:fn.results= #[.cell p ty])(tmps:Array Value)(w:World)(b o:Nat)(cs:List Value)(d:TypeDesc)
  (hp:tmps.getD p undef=.pointer (some ⟨b,o,none⟩)) (hc:w.rangeAt b o cs) (hu:P.underlying ty=some d) (hd:d.isRow=true) (hi:(P.info? ty).map (·.size)=some cs.length):
  (results fn tmps).run P w=.ok (.agg cs.toArray) w:=by
 have hp':tmps[p]?.getD undef=.pointer (some ⟨b,o,none⟩):=by simpa using hp
 simp[results,h,hp',asAddr,run_loadVar_mid w b o ty cs d hc hu hd hi]
theorem zh{w:World}{g:Nat}{cs:List Value}{t:TypeId}{fz:Nat×Nat}(h:w.heap[g]?=some (.cells cs.toArray t fz)):w.rangeAt g 0 cs:=fun j v hv=>by
 rw[za h,qYe];simpa using hv
def opC(O:List (Nat×Bk)):List Value:=O.flatMap fun p=> .int .i64 (p.1:Int)::bkC p.2
structure DvGood(F:List Bk)(O:List (Nat×Bk))(P:List Int):Prop where
 f64:All64 F
 o64:∀p∈O,p.2.length=64/\p.1<F.length
 f1:1<=F.length
 fl:F.length<=4096
 ol:O.length<=65536
 pl:P.length<=65536
structure DvAt(w:World)(b:Nat)(vf vo vp:Value)(F:List Bk)(O:List (Nat×Bk))(P:List Int):Prop where
 str:w.heap[b]?=some (.cells #[vf,vo,vp] 123 (0,0))
 fs:Sl w 54 64 vf F.length (rowC F)
 os:Sl w 131 65 vo O.length (opC O)
 ps:Sl w 3 1 vp P.length (ints P)
 good:DvGood F O P
 fb:vf.ownBlock≠some b
 ob:vo.ownBlock≠some b
 pb:vp.ownBlock≠some b
 fo:Dis vf vo
 fp:Dis vf vp
 op:Dis vo vp
def dvS(b:Nat)(vf vo vp:Value):Nat->Prop:=fun j=>j=b\/vf.ownBlock=some j\/vo.ownBlock=some j\/vp.ownBlock=some j
section
variable{w w' w2:World}{b:Nat}{vf vo vp v2:Value}{F F':List Bk}{O O':List (Nat×Bk)}{P P':List Int}
theorem DvAt.keep(h:DvAt w b vf vo vp F O P){S:Nat->Prop}(hu:Upd S w w')(hs:∀j,dvS b vf vo vp j->¬S j):DvAt w' b vf vo vp F O P:=
 {h with
  str:=(hu.block _ (zf h.str) (hs b (.inl rfl))).trans h.str
  fs:=h.fs.keep hu (fun g hg=>hs g (.inr (.inl hg)))
  os:=h.os.keep hu (fun g hg=>hs g (.inr (.inr (.inl hg))))
  ps:=h.ps.keep hu (fun g hg=>hs g (.inr (.inr (.inr hg))))}
theorem DvAt.new(h:DvAt w b vf vo vp F O P)(hu:Upd (fun _=>False) w w'):DvAt w' b vf vo vp F O P:=h.keep hu (fun _ _ h=>h)
theorem DvAt.blt(h:DvAt w b vf vo vp F O P):b<w.heap.size:=zf h.str
theorem DvAt.slt(h:DvAt w b vf vo vp F O P):∀j,dvS b vf vo vp j->j<w.heap.size:=by
 rintro j (rfl|hj|hj|hj)
 .exact h.blt
 .exact h.fs.lt hj
 .exact h.os.lt hj
 .exact h.ps.lt hj
theorem DvAt.c(h:DvAt w b vf vo vp F O P):w.cell? ⟨b,0,none⟩=some vf/\w.cell? ⟨b,1,none⟩=some vo/\w.cell? ⟨b,2,none⟩=some vp:=by
 refine⟨?_,?_,?_⟩<;>rw[za h.str]<;>rfl
theorem DvAt.fz(h:DvAt w b vf vo vp F O P)(i:Nat):w.frozen? ⟨b,i,none⟩=false:=zg h.str i
end
def Dv(S:Nat->Prop)(w:World)(b:Nat)(F:List Bk)(O:List (Nat×Bk))(P:List Int):Prop:=
 ∃vf vo vp,DvAt w b vf vo vp F O P/\∀j,dvS b vf vo vp j->S j
section
variable{S:Nat->Prop}{w w':World}{b:Nat}{F:List Bk}{O:List (Nat×Bk)}{P:List Int}
theorem Dv.keep(h:Dv S w b F O P){T:Nat->Prop}(hu:Upd T w w')(hs:∀j,S j->¬T j):Dv S w' b F O P:=by
 obtain⟨vf,vo,vp,h,hS⟩:=h;exact⟨vf,vo,vp,h.keep hu (fun j hj=>hs j (hS j hj)),hS⟩
theorem Dv.new(h:Dv S w b F O P)(hu:Upd (fun _=>False) w w'):Dv S w' b F O P:=h.keep hu (fun _ _ h=>h)
theorem Dv.below(h:Dv S w b F O P)(hb:Below w.heap.size w w'):Dv S w' b F O P:=h.new (Upd.of_below hb)
theorem Dv.out(h:Dv S w b F O P){S':Nat->Prop}(hs:∀j,j<w.heap.size->S j->S' j):Dv S' w b F O P:=by
 obtain⟨vf,vo,vp,h,hS⟩:=h;exact⟨vf,vo,vp,h,fun j hj=>hs j (h.slt j hj) (hS j hj)⟩
theorem Dv.good(h:Dv S w b F O P):DvGood F O P:=by obtain⟨vf,vo,vp,h,-⟩:=h;exact h.good
end
def hasC(n:Nat)(s:Int):Int:=if s<0\/(n:Int)<=s then 10 else 0
theorem wJ{S:Nat->Prop}{w:World}{b:Nat}{F:List Bk}{O:List (Nat×Bk)}{P:List Int}(h:Dv S w b F O P):
  Calls prog 47 #[.pointer (some ⟨b,0,none⟩)] w fun e w'=>e=.returned (.int .i64 F.length)/\w'=w:=by
 obtain⟨vf,vo,vp,h,-⟩:=h;obtain⟨g0,-,-⟩:=h.c;obtain⟨ao,c,rfl⟩:=h.fs.rd.j7;clear h;go_enter func47,ntmps47
 go_wp2
 go_ret
 exact⟨rfl,rfl⟩
theorem EU{S:Nat->Prop}{w:World}{b:Nat}{F:List Bk}{O:List (Nat×Bk)}{P:List Int}(h:Dv S w b F O P):
  Calls prog 20 #[.pointer (some ⟨b,0,none⟩)] w fun e w'=>e=.returned (.int .i64 O.length)/\w'=w:=by
 obtain⟨vf,vo,vp,h,-⟩:=h;obtain⟨-,g1,-⟩:=h.c;obtain⟨ao,c,rfl⟩:=h.os.rd.j7;clear h;go_enter func20,ntmps20
 go_wp2
 go_ret
 exact⟨rfl,rfl⟩
theorem zbE{S:Nat->Prop}{w:World}{b:Nat}{F:List Bk}{O:List (Nat×Bk)}{P:List Int}(h:Dv S w b F O P)(s:Int):
  Calls prog 62 #[.pointer (some ⟨b,0,none⟩),.int .i64 s] w fun e w'=>e=.returned (.int .i64 (hasC F.length s))/\w'=w:=by
 obtain⟨vf,vo,vp,h,-⟩:=h;obtain⟨g0,-,-⟩:=h.c;have hl:=h.good.fl;obtain⟨ao,c,rfl⟩:=h.fs.rd.j7;clear h;by_cases h1:s<0
 .have e1:hasC F.length s=10:=if_pos (.inl h1);rw[e1];clear e1;go_enter func62,ntmps62
  go_wp2
  go_ret
  exact⟨rfl,rfl⟩
 .by_cases h2:(F.length:Int)<=s
  .have e1:hasC F.length s=10:=if_pos (.inr h2);rw[e1];clear e1;go_enter func62,ntmps62
   go_wp2
   go_ret
   exact⟨rfl,rfl⟩
  .have e1:hasC F.length s=0:=if_neg (fun h=>h.elim h1 h2);rw[e1];clear e1;go_enter func62,ntmps62
   go_wp2
   go_ret
   exact⟨rfl,rfl⟩
def zB:Bk:=List.replicate 64 0
theorem zK:zB.length=64:=by simp[zB]
theorem Wb:(prog.info? 54).map (fun i=>(i.zero,i.size,i.bytes))=some (some (bkV zB),64,64):=kR
theorem Qb(n:Nat)(x:Bk)(hx:x.length=64)(j:Nat)(hj:j<n*64):(rowC (List.replicate n x))[j]?=(bkC x)[j%64]?:=by
 have h64:All64 (List.replicate n x):=fun y hy=>by rw[(List.mem_replicate.1 hy).2];exact hx
 have hd:j/64<(List.replicate n x).length:=by rw[qzi];omega
 have:=ue h64 hd (j:=j%64) (qYa _ oM);rw[show j/64*64+j%64=j by omega]at this;rw[this];simp
theorem Zp(n:Nat)(h1:1<=n)(h2:n<=4096)(w:World):
  Calls prog 15 #[.int .i64 n] w fun e w'=>∃b,e=.returned (.tuple #[.pointer (some ⟨b,0,none⟩),.int .i64 0])/\
   Dv (fun j=>w.heap.size<=j) w' b (List.replicate n zB) [] []/\w.heap.size<=b/\Below w.heap.size w w':=by
 obtain⟨i,hi,hz0,hz1,hz2⟩:=qZa Wb;have hmk:=run_make (P:=prog) w 41 54 i (bkV zB) underlying41 hi hz0 .i64 .i64 n n oM (Int.le_refl _) jH oM;rw[qxu,hz1]at hmk;have q1:¬((n:Int)<1):=oM;have q2:¬((4096:Int)<n):=oM;obtain⟨C,hC⟩:∃C:Array Value,C=madeCells (bkV zB).cells (n*64):=⟨_,rfl⟩
 rw[<-hC]at hmk;have HC:Hid (C.size=n*64/\∀(j:Nat) (u:Value),(rowC (List.replicate n zB))[j]?=some u->C[j]?=some u):=by
  refine⟨by rw[hC,size_madeCells],fun j u hj=>?_⟩;have h64:All64 (List.replicate n zB):=fun y hy=>by rw[(List.mem_replicate.1 hy).2];exact zK
  have hj':=(qyp.1 hj).1;rw[uc h64,qzi]at hj';rw[Qb n zB zK j hj']at hj;have hcs:(bkV zB).cells=(bkC zB).toArray:=rfl;have hsz:(bkC zB).length=64:=by rw[zo,zK]
  rw[hC];simp only[madeCells,Array.getElem?_map,Array.getElem?_range,hj',if_true,Option.map_some,hcs,qXm,hsz];rw[getElem!_def];simp only[qyv,hj]
 clear hC hz0 hz1 hz2 hi;go_enter func15,ntmps15
 go_wp2
 go_ret2
 have hz:(w.alloc (.cells C 54)).heap.size=w.heap.size+1:=oe;have h64:All64 (List.replicate n zB):=fun y hy=>by rw[(List.mem_replicate.1 hy).2];exact zK
 have hln:(List.replicate n zB).length=n:=qzi;refine⟨w.heap.size+1,rfl,⟨.slice (some ⟨w.heap.size,0,none⟩) n n,.slice none 0 0,.slice none 0 0,⟨zc _ _ hz.symm,?_,Sl.nil _ _ _,Sl.nil _ _ _,⟨h64,oe,oM,oM,oe,oe⟩,by simp[Value.ownBlock],by simp[Value.ownBlock],by simp[Value.ownBlock],(Dis.nil _ _ _).symm,(Dis.nil _ _ _).symm,Dis.nil _ _ _⟩,?_⟩,oM,(((qxl _ w).alloc (qXv _) _).alloc oe _)⟩
 .rw [hln];refine Sl.keep (w:=w.alloc (.cells C 54)) ⟨by rw[uc h64,hln],.inr ⟨w.heap.size,0,n,C,rfl,zc w _ rfl,qXv _,by unfold maxLen;omega,by rw[HC.o.1];omega,fun j u hj=>by rw[qYe];exact HC.o.2 j u hj⟩⟩ (Upd.alloc (Upd.refl (fun _=>False) _) _) (fun _ _ h=>h)
 .rintro j (rfl|hj|hj|hj)
  .omega
  .simp [Value.ownBlock]at hj;omega
  .cases hj
  .cases hj
section
variable{w w' w2:World}{b:Nat}{vf vo vp v2:Value}{F F':List Bk}{O O':List (Nat×Bk)}{P P':List Int}
theorem Vm{w:World}{v v':Value}{x:Nat}(h:blockFrom w v v')(hv:v.ownBlock≠some x)(hx:x<w.heap.size):v'.ownBlock≠some x:=by
 intro e;rcases h with h|⟨g,h,hg⟩
 .exact hv (by rw[<-h,e])
 .rw [h]at e;cases e;omega
theorem DvAt.setPlan(h:DvAt w b vf vo vp F O P)(hu:Upd (ownS vp) w w2)(h2:Sl w2 3 1 v2 P'.length (ints P'))(hbf:blockFrom w vp v2)(hg:DvGood F O P'):DvAt (w2.setCell ⟨b,2,none⟩ v2) b vf vo v2 F O P':=
 have hne:=Vm hbf h.pb h.blt;have hstr:w2.heap[b]?=_:=(hu.block b h.blt (fun e=>h.pb e)).trans h.str
 {str:=zi hstr 2 v2
  fs:=(h.fs.kS h.fp hu).kQ (zj _ _ _ _) h.fb
  os:=(h.os.kS h.op hu).kQ (zj _ _ _ _) h.ob
  ps:=h2.kQ (zj _ _ _ _) hne
  good:=hg
  fb:=h.fb
  ob:=h.ob
  pb:=hne
  fo:=h.fo
  fp:=(h.fp.symm.from hbf (fun _g hg=>h.fs.lt hg)).symm
  op:=(h.op.symm.from hbf (fun _g hg=>h.os.lt hg)).symm}
theorem DvAt.setOpen(h:DvAt w b vf vo vp F O P)(hu:Upd (ownS vo) w w2)(h2:Sl w2 131 65 v2 O'.length (opC O'))(hbf:blockFrom w vo v2)(hg:DvGood F O' P):DvAt (w2.setCell ⟨b,1,none⟩ v2) b vf v2 vp F O' P:=
 have hne:=Vm hbf h.ob h.blt;have hstr:w2.heap[b]?=_:=(hu.block b h.blt (fun e=>h.ob e)).trans h.str
 {str:=zi hstr 1 v2
  fs:=(h.fs.kS h.fo hu).kQ (zj _ _ _ _) h.fb
  os:=h2.kQ (zj _ _ _ _) hne
  ps:=(h.ps.kS h.op.symm hu).kQ (zj _ _ _ _) h.pb
  good:=hg
  fb:=h.fb
  ob:=hne
  pb:=h.pb
  fo:=(h.fo.symm.from hbf (fun _g hg=>h.fs.lt hg)).symm
  fp:=h.fp
  op:=h.op.from hbf (fun _g hg=>h.ps.lt hg)}
end
theorem DvGood.tail{F:List Bk}{O:List (Nat×Bk)}{P:List Int}(h:DvGood F O P):DvGood F O P.tail:={h with pl:=by rw[List.length_tail];have:=h.pl;omega}
def fate(P:List Int):Int:=P.headD 0
theorem zbF{S:Nat->Prop}{w:World}{b g:Nat}{F:List Bk}{O:List (Nat×Bk)}{P:List Int}(h:Dv S w b F O P)(hg:w.cell? ⟨g,0,none⟩=some (.pointer (some ⟨b,0,none⟩))):
  Calls prog 121 #[.pointer (some ⟨g,0,none⟩)] w fun e w'=>e=.returned (.int .i64 (fate P))/\Dv S w' b F O P.tail/\Upd (fun j=>j=b) w w':=by
 obtain⟨vf,vo,vp,h,hS⟩:=h;have H:=Y2 h hS;obtain⟨-,-,g2⟩:=h.c;have f2:=h.fz 2;cases P with
 |nil=>
  obtain⟨ao,c,rfl⟩:=h.ps.rd.j7;clear h hS;go_enter func121,ntmps121
  go_wp2
  go_ret
  exact⟨rfl,⟨vf,vo,_,H.o.1,H.o.2⟩,Upd.refl _ _⟩
 |cons p P=>
  obtain⟨gp,op,cp,cur,rfl,hgp,hzp,hcp⟩:=h.ps.at oe;have x0:=(za hgp op).trans (hcp 0 (.int .i64 p) rfl);have hpl:=h.good.pl;have ht:=Sl.tail (h.ps:Sl w 3 1 (.slice (some ⟨gp,op,none⟩) (P.length+1) cp) (P.length+1) (.int .i64 p::ints P));have HT:=qqh ht;have hgd:Hid (DvGood F O P):=h.good.tail;clear h hS hcp hzp ht;by_cases hc1:cp=1
  .have hDv:Hid (Dv S (w.setCell ⟨b,2,none⟩ (.slice (some ⟨gp,op,none⟩) P.length 0)).drew b F O P):=
    Dv.new ⟨vf,vo,_,H.o.1.setPlan (Upd.refl _ _) (HT.o.2.1 hc1) (.inl rfl) hgd.out,H.o.2⟩ ((Upd.refl _ _).drew)
   have hU:Hid (Upd (fun j=>j=b) w (w.setCell ⟨b,2,none⟩ (.slice (some ⟨gp,op,none⟩) P.length 0)).drew):=(zj _ _ _ _).drew;subst hc1;go_enter func121,ntmps121
   go_wp2
   go_region
   go_wp2
   go_ret
   exact⟨rfl,hDv.out,hU.out⟩
  .have hDv:Hid (Dv S (w.setCell ⟨b,2,none⟩ (.slice (some ⟨gp,op+1,none⟩) P.length (cp-1))).drew b F O P):=
    Dv.new ⟨vf,vo,_,H.o.1.setPlan (Upd.refl _ _) HT.o.1 (.inl rfl) hgd.out,H.o.2⟩ ((Upd.refl _ _).drew)
   have hU:Hid (Upd (fun j=>j=b) w (w.setCell ⟨b,2,none⟩ (.slice (some ⟨gp,op+1,none⟩) P.length (cp-1))).drew):=(zj _ _ _ _).drew;go_enter func121,ntmps121
   go_wp2
   go_region
   go_wp2
   go_ret
   exact⟨rfl,hDv.out,hU.out⟩
def Qc(S:Nat->Prop)(w:World)(b:Nat)(F:List Bk)(O:List (Nat×Bk))(P:List Int)(failed:Int)(Q:World->Prop)(e:Ending)(w':World):Prop:=
 (fate P=1/\e=.returned (.int .i64 failed)/\Dv S w' b F O P.tail/\Upd (fun j=>j=b) w w')\/(fate P=0/\e=.returned (.int .i64 0)/\Q w')\/
  (fate P≠0/\fate P≠1/\e=.returned (.int .i64 0)/\Dv S w' b F O P.tail/\Upd (fun j=>j=b) w w')
theorem Qd{S:Nat->Prop}{w:World}{b:Nat}{F:List Bk}{O:List (Nat×Bk)}{P:List Int}(h:Dv S w b F O P)(failed:Int)(fd:Nat)(caps:Array Value)(Q:World->Prop)
  (hent:∀args w,(callFunc fd args).run prog w=.ok (.enter fd args) w)
  (hdo:fate P=0->∀w1,Dv S w1 b F O P.tail->Upd (fun j=>j=b) w w1->Calls prog fd caps w1 fun e w'=>e=.returned (.tuple #[])/\Q w'):
  Calls prog 63 #[.pointer (some ⟨b,0,none⟩),.int .i64 failed,.func (.func fd) #[] caps] w (Qc S w b F O P failed Q):=by
 have hmf:=qqf;have hua:Upd (fun _=>False) w (w.alloc (.cells #[.pointer (some ⟨b,0,none⟩)] 46)):=(Upd.refl _ _).alloc _;have H1:=qqh (h.new hua);have HG:Hid ((w.alloc (.cells #[.pointer (some ⟨b,0,none⟩)] 46)).cell? ⟨w.heap.size,0,none⟩=some (.pointer (some ⟨b,0,none⟩))):=za (zc w _ rfl) 0;have HD:=qqh hdo;have HU:=qqh hua;clear h hdo hua;go_enter func63,ntmps63
 go_wp2_with fail
 refine(zbF H1.o HG.o).mono ?_;rintro e w1 ⟨rfl,hd1,hu1⟩;have D1:=Y2 hd1 ((HU.o.mono fE).trans hu1);clear hd1 hu1;by_cases h1:fate P=1
 .have H1:=qqh h1;rw[h1];clear h1;go_wp2
  go_ret
  exact .inl ⟨H1.o,rfl,D1.out.1,D1.out.2⟩
 .by_cases h0:fate P=0
  .have H0:=qqh h0;rw[h0];clear h0 h1;go_wp2_with fail
   refine(HD.o H0.o w1 D1.out.1 D1.out.2).mono ?_;rintro e w2 ⟨rfl,hq⟩;have HQ:=qqh hq;clear hq;go_wp2
   go_ret
   exact .inr (.inl ⟨H0.o,rfl,HQ.o⟩)
  .have q1:(fate P==1)=false:=by simpa using h1
   have q0:(fate P==0)=false:=by simpa using h0
   have H0:=Y2 h0 h1;clear h0 h1;go_wp2
   go_ret
   exact .inr (.inr ⟨H0.o.1,H0.o.2,rfl,D1.out.1,D1.out.2⟩)
abbrev wrC(s:Int)(x:Bk):List Value:=.int .i64 s::bkC x
theorem wrC_len(s:Int)(x:Bk):(wrC s x).length=x.length+1:=by simp[wrC,zo]
theorem ug(s:Int)(x:Bk):∀v∈wrC s x,v.oneCell'=true:=by
 intro v hv;rcases qzr.1 hv with rfl|h
 .rfl
 .exact zx x v h
theorem yP(off:Nat)(cs z:Array Value):(Array.foldl (fun(cs:Array Value) (x:Value×Nat)=>cs.setIfInBounds (off+x.2) x.1) z cs.zipIdx).size=z.size/\
  ∀k,(Array.foldl (fun(cs:Array Value) (x:Value×Nat)=>cs.setIfInBounds (off+x.2) x.1) z cs.zipIdx)[k]?=if off<=k/\k<off+cs.size/\k<z.size then cs[k-off]? else z[k]?:=by
 rw[<-Array.foldl_toList,Array.toList_zipIdx];obtain⟨h1,h2⟩:=Go.Great.foldl_set off cs.toList 0 z;exact⟨h1,fun k=>by rw[h2 k];simp⟩
theorem xr(pl:Nat->Option (Nat×Nat))(z:Array Value)(i off size:Nat)(v:Value)(rest:List (Nat×Value))(hp:pl i=some (off,size))(hv:v.cells.size=size)(hz:off+size<=z.size):
  Instr.fill pl z ((i,v)::rest)=Instr.fill pl (Array.foldl (fun(cs:Array Value) (x:Value×Nat)=>cs.setIfInBounds (off+x.2) x.1) z v.cells.zipIdx) rest:=by
 show(match pl i with|none=>none|some (off,size)=>_)=_
 rw[hp];show(if(decide (v.cells.size≠size)||decide (off+v.cells.size>z.size))=true then none else _)=_;rw[if_neg (by simp[hv];omega)]
theorem Yx(p q:Value)(hp:p.cells.size=1)(hq:q.cells.size=64)(z:Array Value)(hz:z.size=65)(pl:Nat->Option (Nat×Nat))(h0:pl 0=some (0,1))(h1:pl 1=some (1,64)):
  Instr.fill pl z [(0,p),(1,q)]=some (p.cells.toList++q.cells.toList).toArray:=by
 obtain⟨a1,a2⟩:=yP 0 p.cells z;obtain⟨b1,b2⟩:=yP 1 q.cells (Array.foldl (fun(cs:Array Value) (x:Value×Nat)=>cs.setIfInBounds (0+x.2) x.1) z p.cells.zipIdx);rw[xr pl z 0 0 1 p _ h0 hp oM,xr pl _ 1 1 64 q _ h1 hq (by rw[a1];omega)];show some _=_
 congr 1
 apply qxd
 intro k;rw[b2 k,a1,hz,hq];by_cases hk:k<65
 .by_cases hk0:k=0
  .subst hk0;rw[if_neg oM,a2 0,if_pos ⟨oM,oM,oM⟩];rw[show((p.cells.toList++q.cells.toList).toArray)[0]?=(p.cells.toList++q.cells.toList)[0]? by rw[qyv],qyi oh];simp
  .rw [if_pos ⟨oM,oM,hk⟩,show((p.cells.toList++q.cells.toList).toArray)[k]?=(p.cells.toList++q.cells.toList)[k]? by rw[qyv],qyj oh];simp[hp]
 .rw [if_neg oM,a2 k,if_neg oM,qxf oM,qxf oh]
theorem Qe:(prog.info? 131).map (fun i=>(i.zero.map (·.cells.size),i.size,i.bytes))=some (some 65,65,72):=kR
theorem Qf:(match prog.underlying 131 with|some (.struct fs)=>fs.toList.mapM (fun f=>(prog.info? f.type).map fun i=>(f.offset,i.size))|_=>none)=some [(0,1),(1,64)]:=kR
theorem xl:∃i z,prog.info? 131=some i/\i.zero=some z/\z.cells.size=65/\i.size=65/\i.bytes=72:=by
 obtain⟨i,hi,h⟩:=qYi.1 Qe;simp only[qYk]at h;obtain⟨h1,h2,h3⟩:=h;obtain⟨z,hz,hs⟩:=qYi.1 h1;exact⟨i,z,hi,hz,hs,h2,h3⟩
theorem uh(p q:Value)(hp:p.cells.size=1)(hq:q.cells.size=64)(w:World):(Instr.build 131 #[(0,p),(1,q)]).run prog w=.ok (.agg (p.cells.toList++q.cells.toList).toArray) w:=by
 refine run_build w _ _ _ ?_;obtain⟨i,z,hi,hz,hs,_,_⟩:=xl;have hpl:=Qf;have hu:=underlying131;unfold Program.built;rw[hu]at hpl;rw[hi,hu];simp only[hz];simp only at hpl;rw[hpl];exact Yx p q hp hq z.cells hs _ rfl rfl
theorem qt(v:Value)(hv:v.cells.size=65)(w:World):(Instr.buildSlice 121 1 #[(0,v)]).run prog w=.ok (.slice (some ⟨w.heap.size,0,none⟩) 1 1) (w.alloc (.cells v.cells 131)):=by
 obtain⟨i,z,hi,hz,hs,hsz,_⟩:=xl;refine run_buildSlice w _ _ 1 _ _ i z underlying121 hi hz jC jC ?_;obtain⟨a1,a2⟩:=yP 0 v.cells ((Array.range (1*i.size)).map (z.cells[·%z.cells.size]!));rw[show(#[(0,v)]:Array (Nat×Value)).toList=[(0,v)]from rfl];rw[xr _ _ 0 0 65 v _ jL hv jL];show some _=_
 congr 1
 apply qxd
 intro k;rw[a2 k];by_cases hk:k<65
 .rw [if_pos ⟨oM,oM,by simp[hsz];omega⟩];rfl
 .rw [if_neg oM,qxf kf,qxf oM]
theorem Yy(dst:Option Tmp)(ty:TypeId)(pos:String)(after:Array Edge)(p q:Operand)(a:Act)(w:World)(K:Act->World->Prop)(Q:Exit->Act->World->Prop)(hp:(a.eval p).cells.size=1)(hq:(a.eval q).cells.size=64):
  Oper.wp prog {dst:=dst,op:=.build 131 #[(0,p),(1,q)],type:=ty,pos:=pos,after:=after,guard:=none} a w K Q=K (a.put dst (.agg ((a.eval p).cells.toList++(a.eval q).cells.toList).toArray)) w:=by
 unfold Oper.wp execOp;have:=uh (a.eval p) (a.eval q) hp hq w;simp only[qzp,qzm,qzo,qYm,this,qYl];rfl
theorem Uw(dst:Option Tmp)(ty:TypeId)(pos:String)(after:Array Edge)(p:Operand)(a:Act)(w:World)(K:Act->World->Prop)(Q:Exit->Act->World->Prop)(hp:(a.eval p).cells.size=65):
  Oper.wp prog {dst:=dst,op:=.buildSlice 121 1 #[(0,p)],type:=ty,pos:=pos,after:=after,guard:=none} a w K Q=K (a.put dst (.slice (some ⟨w.heap.size,0,none⟩) 1 1)) (w.alloc (.cells (a.eval p).cells 131)):=by
 unfold Oper.wp execOp;have:=qt (a.eval p) hp w;simp only[qzp,qzm,qzo,qYm,this,qYl];rfl
theorem sh(a:Act)(p q:Operand)(w:World)(hp:(a.eval p).cells.size=1)(hq:(a.eval q).cells.size=64):
  (Instr.build 131 ((#[(0,p),(1,q)]:Array (Nat×Operand)).map fun(i,x)=>(i,a.eval x))).run prog w=.ok (.agg ((a.eval p).cells.toList++(a.eval q).cells.toList).toArray) w:=by
 have:=uh (a.eval p) (a.eval q) hp hq w;simp only[qzp,qzm,qzo];exact this
theorem Yz(a:Act)(p:Operand)(w:World)(hp:(a.eval p).cells.size=65):
  (Instr.buildSlice 121 1 ((#[(0,p)]:Array (Nat×Operand)).map fun(i,x)=>(i,a.eval x))).run prog w=.ok (.slice (some ⟨w.heap.size,0,none⟩) 1 1) (w.alloc (.cells (a.eval p).cells 131)):=by
 have:=qt (a.eval p) hp w;simp only[qzp,qzm,qzo];exact this
theorem Zq:Tryz.zeroCells131.size=65:=kR
theorem Qg(s:Int)(x:Bk)(hx:x.length=64):List.foldl (fun(cs:Array Value) (x:Value×Nat)=>cs.setIfInBounds (1+x.2) x.1) (Tryz.zeroCells131.setIfInBounds 0 (.int .i64 s)) (bkC x).zipIdx=(wrC s x).toArray:=by
 have hb:(bkC x).length=64:=by rw[zo,hx]
 have hz1:(Tryz.zeroCells131.setIfInBounds 0 (.int .i64 s)).size=65:=by rw[Array.size_setIfInBounds,Zq]
 obtain⟨_,f2⟩:=Go.Great.foldl_set 1 (bkC x) 0 (Tryz.zeroCells131.setIfInBounds 0 (.int .i64 s));apply qxd
 intro k;rw[f2 k,hz1];by_cases hk:k<65
 .by_cases hk0:k=0
  .subst hk0;rw[if_neg oM,Array.getElem?_setIfInBounds_self_of_lt (by rw[Zq];omega)];simp
  .rw [if_pos ⟨oM,oM,hk⟩];obtain⟨m,rfl⟩:∃m,k=m+1:=⟨k-1,oM⟩
   simp
 .rw [if_neg oM,qxf oM,qxf (by simp[hb];omega)]
theorem qqu{w w1:World}{o:Obj}(h:w1=w.alloc o):Upd (fun _=>False) w w1:=by rw[h];exact (Upd.refl _ w).alloc _
theorem qqb{w w1:World}(h:Below w.heap.size w w1):Upd (fun _=>False) w w1:=Upd.of_below h
theorem qqg{w w1:World}{o:Obj}(h:w1=w.alloc o):w1.heap[w.heap.size]?=some o:=by rw[h];exact zc w _ rfl
theorem uur:type_of% @Upd.refl:=@Upd.refl
theorem uuo:type_of% @Upd.of_below:=@Upd.of_below
end Go.Proofs.YtfhfbpmlnjdfoaaGreatDoor
