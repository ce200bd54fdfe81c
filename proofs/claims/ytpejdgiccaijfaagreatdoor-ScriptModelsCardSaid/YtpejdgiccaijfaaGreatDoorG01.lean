/- Words on world -/
import Derived.Test.YtpejdgiccaijfaaGreatDoorG00
import Derived.WalkKit
import Derived.ProofKit
import Derived.OpenShut
import Derived.Handy
import Derived.Deep.QuietTactic
import Derived.BigQuiet
import Derived.StillTailTactics
import Derived.Lib.Hide
import Derived.Deep.LoopGhost
import Derived.Deep.DeepCutAuto
import Derived.Deep.RegionHeld3
import Derived.Deep.MidRow
import Derived.Deep.RegionWith
import Derived.WalkSpells
import Derived.WalkMore
import Derived.Test.YtpejdgiccaijfaaGreatDoorProg
import Derived.Stop.BytesEq
import Derived.Laws.ResultCell
import Derived.Great.BuildSlice
import Derived.Deep.DrawnRows
import Derived.Defers
import Derived.Recover
import Derived.Laws.Bits64b
set_option maxRecDepth 100000
set_option maxHeartbeats 1000000
namespace Go.Proofs.YtpejdgiccaijfaaGreatDoor
open Go Go.RowKit Tryz
structure Upd(S:Nat->Prop)(w w':World):Prop where
 os:w'.os=w.os
 tape:w'.tape=w.tape
 output:w'.output=w.output
 size:w.heap.size<=w'.heap.size
 block:∀k,k<w.heap.size->¬S k->w'.heap[k]?=w.heap[k]?
namespace Upd
theorem refl(S:Nat->Prop)(w:World):Upd S w w:=⟨rfl,rfl,rfl,qXo _,fun _ _ _=>rfl⟩
theorem trans{S:Nat->Prop}{a b c:World}(h:Upd S a b)(k:Upd S b c):Upd S a c:=
 ⟨k.os.trans h.os,k.tape.trans h.tape,k.output.trans h.output,qXq h.size k.size,
  fun i hi hs=>(k.block i (qXr hi h.size) hs).trans (h.block i hi hs)⟩
theorem mono{S S':Nat->Prop}{a b:World}(h:Upd S a b)(hs:∀k,k<a.heap.size->S k->S' k):Upd S' a b:=
 ⟨h.os,h.tape,h.output,h.size,fun i hi hn=>h.block i hi fun hS=>hn (hs i hi hS)⟩
theorem drew{S:Nat->Prop}{a w:World}(h:Upd S a w):Upd S a w.drew:=⟨h.os,h.tape,h.output,h.size,h.block⟩
theorem drewN{S:Nat->Prop}{a w:World}(h:Upd S a w)(n:Nat):Upd S a (w.drewN n):=⟨h.os,h.tape,h.output,h.size,h.block⟩
theorem alloc{S:Nat->Prop}{a w:World}(h:Upd S a w)(o:Obj):Upd S a (w.alloc o):=
 h.trans ⟨rfl,rfl,rfl,oe,fun k hk _=>qxk _ _ _ hk⟩
theorem setCell{S:Nat->Prop}{a w:World}(h:Upd S a w)(p:Addr)(hp:p.block<a.heap.size->S p.block)(u:Value):Upd S a (w.setCell p u):=
 ⟨h.os,h.tape,h.output,by simpa using h.size,fun k hk hs=>by
  rw[Below.heap_setCell]
  .exact h.block k hk hs
  .rintro rfl;exact hs (hp hk)⟩
theorem below{a w:World}(h:Upd (fun _=>False) a w):Below a.heap.size a w:=
 ⟨h.os,h.tape,h.output,h.size,fun k hk=>h.block k hk id⟩
theorem of_below{S:Nat->Prop}{a w:World}(h:Below a.heap.size a w):Upd S a w:=
 ⟨h.os,h.tape,h.output,h.size,fun k hk _=>h.block k hk⟩
theorem new{S S':Nat->Prop}{a w w':World}(h:Upd S' a w)(k:Upd S w w')(hs:∀i,i<a.heap.size->S i->S' i):Upd S' a w':=
 ⟨k.os.trans h.os,k.tape.trans h.tape,k.output.trans h.output,qXq h.size k.size,
  fun i hi hn=>(k.block i (qXr hi h.size) fun hS=>hn (hs i hi hS)).trans (h.block i hi hn)⟩
theorem cell{S:Nat->Prop}{w w':World}(h:Upd S w w'){p:Addr}(hp:p.block<w.heap.size)(hs:¬S p.block):w'.cell? p=w.cell? p:=
 World.cell?_of_block (w:=w) (h.block p.block hp hs)
theorem frozen{S:Nat->Prop}{w w':World}(h:Upd S w w'){p:Addr}(hp:p.block<w.heap.size)(hs:¬S p.block):w'.frozen? p=w.frozen? p:=
 World.frozen?_of_block (w:=w) (h.block p.block hp hs)
theorem cellAt{S:Nat->Prop}{w w':World}(h:Upd S w w'){b o:Nat}(hp:b<w.heap.size)(hs:¬S b):w'.cell? ⟨b,o,none⟩=w.cell? ⟨b,o,none⟩:=h.cell (p:=⟨b,o,none⟩) hp hs
theorem frozenAt{S:Nat->Prop}{w w':World}(h:Upd S w w'){b o:Nat}(hp:b<w.heap.size)(hs:¬S b):w'.frozen? ⟨b,o,none⟩=w.frozen? ⟨b,o,none⟩:=h.frozen (p:=⟨b,o,none⟩) hp hs
theorem lt{S:Nat->Prop}{w w':World}(h:Upd S w w'){k:Nat}(hk:k<w.heap.size):k<w'.heap.size:=qXr hk h.size
end Upd
theorem zd{w:World}{b:Nat}{o:Obj}(h:w.heap[b]?=some o):b<w.heap.size:=(Array.getElem?_eq_some_iff.1 h).1
theorem za{w:World}{b:Nat}{cs:Array Value}{T:TypeId}{fz:Nat×Nat}(h:w.heap[b]?=some (.cells cs T fz))(i:Nat):w.cell? ⟨b,i,none⟩=cs[i]?:=by
 simp[World.cell?,h]
theorem zf{w:World}{b:Nat}{cs:Array Value}{T:TypeId}(h:w.heap[b]?=some (.cells cs T (0,0)))(i:Nat):w.frozen? ⟨b,i,none⟩=false:=by
 simp[World.frozen?,h]
theorem zh{w:World}{b:Nat}{cs:Array Value}{T:TypeId}{fz:Nat×Nat}(h:w.heap[b]?=some (.cells cs T fz))(i:Nat)(u:Value):
  (w.setCell ⟨b,i,none⟩ u).heap[b]?=some (.cells (cs.setIfInBounds i u) T fz):=by
 simp[World.setCell,Array.getElem?_modify,h]
theorem zc(w:World)(o:Obj){n:Nat}(h:n=w.heap.size):(w.alloc o).heap[n]?=some o:=by
 subst h;show(w.heap.push o)[w.heap.size]?=_;simp
def Wl(_:List Nat)(G:Prop):Prop:=G
namespace Wl
theorem i{G:Prop}(l:List Nat)(h:Wl l G):G:=h
theorem o{G:Prop}(h:G):Wl [] G:=h
section
variable{P:Program}{md:Region.Mode}{ops:Array Oper}{Q:Exit->Act->World->Prop}{S:World->Prop}{k:Nat}{oi:Oper}{v:Value}{fuel:Nat}{listed:Array Bool}{a a':Act}{w:World}{ks:List Nat}
theorem t(hS:S w)(h:Wl ks (wpAnyH P md ops Q S fuel (listed.setIfInBounds k true) a' w))(hi:ops[k]?=some oi:=by rfl)(hs:Region.noSelect ops=true:=by kernel_rfl)(hf:Region.free md ops listed k=true:=by kernel_rfl)
  (hr:(Region.ready md ops listed).contains k=true:=by kernel_rfl) (hQ:∀c a w,Q (.panic c) (a.put oi.dst v) w->Q (.panic c) a w:=by exact fun _ _ _ h=>h)
  (hy:YieldsIf P ops S oi v a:=by first|(refine Or.inr ⟨?_,rfl⟩;rfl)|(refine Or.inl ⟨?_,?_⟩;rfl;intro W hSw;(try dsimp only at hSw);(try go_split_ands);go_simp;(try with_reducible rfl)))
  (ha:a.put oi.dst v=a':=by simp only[qyx,qyr,qys,Act.put,qXd,qXg,qXf];rfl):Wl (k::ks) (wpAnyH P md ops Q S (fuel+1) listed a w):=
 qYx hi hs hf hr hQ hy hS (ha▸h)
theorem l(k:Nat){ty:TypeId}{x:Operand}{b o:Nat}{cs:List Value}{d:TypeDesc}(hS:∀w,S w->w.rangeAt b o cs)(hu:P.underlying ty=some d)(hz:(P.info? ty).map (·.size)=some cs.length)(hw:S w)
  (h:wpAnyH P md ops Q S fuel (listed.setIfInBounds k true) a' w) (hi:ops[k]?=some oi:=by rfl) (hs:Region.noSelect ops=true:=by kernel_rfl) (hf:Region.free md ops listed k=true:=by kernel_rfl)
  (hr:(Region.ready md ops listed).contains k=true:=by kernel_rfl) (hQ:∀c a w,Q (.panic c) (a.put oi.dst (.agg cs.toArray)) w->Q (.panic c) a w:=by exact fun _ _ _ h=>h)
  (hg:Region.wanted oi (yielded ops a.tmps)=true:=by rfl) (ho:oi.op=.load ty x:=by rfl) (hx:a.eval x=.pointer (some ⟨b,o,none⟩):=by rfl) (hd:d.isRow=true:=by rfl)
  (ha:a.put oi.dst (.agg cs.toArray)=a':=by simp only[qyx,qyr,qys,Act.put,qXd,qXg,qXf];rfl):wpAnyH P md ops Q S (fuel+1) listed a w:=
 qYx hi hs hf hr hQ (qZd hg ty x ho b o hx cs d hS hu hd hz) hw (ha▸h)
theorem r(k:Nat)(h:∀K':Act->World->Prop,Shut (∀a w,S w->(S w->wpAnyH P md ops Q S fuel (listed.setIfInBounds k true) a w)->K' a w)->if Region.wanted oi (yielded ops a.tmps)=true then Oper.wp P oi a w K' Q else K' (a.put oi.dst undef) w)
  (hi:ops[k]?=some oi:=by rfl) (hr:Region.ready md ops listed=[k]:=by kernel_rfl):wpAnyH P md ops Q S (fuel+1) listed a w:=
 qYw hr oe (qxb hi h qxc)
theorem d(h:Q .normal a w)(hr:Region.ready md ops listed=[]:=by kernel_rfl):wpAnyH P md ops Q S fuel listed a w:=wpAnyH_done hr h _
end
end Wl
def Sl(w:World)(e:TypeId)(k:Nat)(v:Value)(n:Nat)(xs:List Value):Prop:=
 xs.length=n*k/\((v=.slice none 0 0/\n=0)\/
  ∃g off cap cur,v=.slice (some ⟨g,off,none⟩) n cap/\w.heap[g]?=some (.cells cur e (0,0))/\n<=cap/\cap<=maxLen/\off+cap*k<=cur.size/\
   ∀j u,xs[j]?=some u->cur[off+j]?=some u)
def Rd(w:World)(k:Nat)(v:Value)(n:Nat)(xs:List Value):Prop:=
 xs.length=n*k/\n<=maxLen/\∃ao cap,v=.slice ao n cap/\(ao=none->n=0)/\∀b,ao=some b->∀j u,xs[j]?=some u->w.cell? (b.add j)=some u
section
variable{w w':World}{e:TypeId}{k n:Nat}{v:Value}{xs:List Value}
theorem Sl.nil(w:World)(e:TypeId)(k:Nat):Sl w e k (.slice none 0 0) 0 []:=⟨oe,.inl ⟨rfl,rfl⟩⟩
theorem Sl.rd(h:Sl w e k v n xs):Rd w k v n xs:=by
 obtain⟨hl,⟨rfl,rfl⟩|⟨g,off,cap,cur,rfl,hg,hn,hm,hs,hc⟩⟩:=h
 .exact ⟨hl,qXy _,none,0,rfl,fun _=>rfl,fun b hb=>by cases hb⟩
 .refine ⟨hl,qXq hn hm,some ⟨g,off,none⟩,cap,rfl,(fun h=>by cases h),(fun b hb=>?_)⟩;cases hb;intro j u hu;rw[qxa,za hg];exact hc j u hu
theorem Rd.le(h:Rd w k v n xs):n<=maxLen:=h.2.1
theorem Sl.le(h:Sl w e k v n xs):n<=maxLen:=h.rd.le
theorem Sl.lt(h:Sl w e k v n xs){g:Nat}(hg:v.ownBlock=some g):g<w.heap.size:=by
 obtain⟨_,⟨rfl,rfl⟩|⟨g',off,cap,cur,rfl,hg',_⟩⟩:=h
 .simp [Value.ownBlock]at hg
 .simp [Value.ownBlock]at hg;subst hg;exact zd hg'
theorem Sl.keep(h:Sl w e k v n xs){S:Nat->Prop}(hu:Upd S w w')(hs:∀g,v.ownBlock=some g->¬S g):Sl w' e k v n xs:=by
 refine⟨h.1,?_⟩;rcases h.2 with hn|⟨g,off,cap,cur,rfl,hg,rest⟩
 .exact .inl hn
 .exact .inr ⟨g,off,cap,cur,rfl,(hu.block g (zd hg) (hs g rfl)).trans hg,rest⟩
theorem Sl.same(h:Sl w e k v n xs)(hb:∀g,v.ownBlock=some g->w'.heap[g]?=w.heap[g]?):Sl w' e k v n xs:=by
 refine⟨h.1,?_⟩;rcases h.2 with hn|⟨g,off,cap,cur,rfl,hg,rest⟩
 .exact .inl hn
 .exact .inr ⟨g,off,cap,cur,rfl,(hb g rfl).trans hg,rest⟩
theorem zJ{w:World}{a:Addr}{u:Value}(h:w.cell? a=some u):a.spot=none/\a.block<w.heap.size:=by
 refine⟨?_,qYg w a h⟩;unfold World.cell? at h;split at h
 .split at h
  .cases h
  .rename_i hs;simpa using hs
 .cases h
theorem Rd.keep(h:Rd w k v n xs){S:Nat->Prop}(hu:Upd S w w')(hs:∀g,v.ownBlock=some g->¬S g):Rd w' k v n xs:=by
 obtain⟨hl,hm,ao,cap,rfl,h0,hc⟩:=h;refine⟨hl,hm,ao,cap,rfl,h0,fun b hb j u hj=>?_⟩;have h1:=hc b hb j u hj;have hblk:(b.add j).block=b.block:=by unfold Addr.add;split<;>rfl
 subst hb;rw[hu.cell (zJ h1).2 (by rw[hblk];exact hs b.block rfl)];exact h1
theorem Rd.jU(h:Rd w k v n xs):∃ao cap,v=.slice ao n cap:=by obtain⟨_,_,ao,cap,rfl,_⟩:=h;exact⟨ao,cap,rfl⟩
theorem Rd.at(h:Rd w k v n xs)(hn:0<n)(hk:0<k:=by decide):∃bl off cap,v=.slice (some ⟨bl,off,none⟩) n cap/\bl<w.heap.size/\∀j u,xs[j]?=some u->w.cell? ⟨bl,off+j,none⟩=some u:=by
 obtain⟨hl,hm,ao,cap,rfl,h0,hc⟩:=h;cases ao with
 |none=>have:=h0 rfl;omega
 |some b=>
  have hc:=hc b rfl;have hx:0<xs.length:=by rw[hl];exact Nat.mul_pos hn hk
  obtain⟨hs,hb⟩:=zJ (hc 0 _ (qyj hx));obtain⟨bl,off,sp⟩:=b;have hsp:sp=none:=by unfold Addr.add at hs;split at hs<;>simp_all
  subst hsp;rw[qxa]at hb;exact⟨bl,off,cap,rfl,hb,fun j u hj=>by have:=hc j u hj;rwa[qxa]at this⟩
theorem Sl.at(h:Sl w e k v n xs)(hn:0<n):∃g off cap cur,v=.slice (some ⟨g,off,none⟩) n cap/\w.heap[g]?=some (.cells cur e (0,0))/\off+n*k<=cur.size/\∀j u,xs[j]?=some u->cur[off+j]?=some u:=by
 obtain⟨hl,⟨rfl,rfl⟩|⟨g,off,cap,cur,rfl,hg,hnc,hm,hs,hc⟩⟩:=h
 .omega
 .exact ⟨g,off,cap,cur,rfl,hg,by have:=qXu k hnc;omega,hc⟩
theorem zy:∀(vs:List Value) (o:Nat) (w:World) (b:Nat) (cur:Array Value) (T:TypeId) (fz:Nat×Nat),w.heap[b]?=some (.cells cur T fz)->
  ∃cur',(w.setCells b o vs).heap[b]?=some (.cells cur' T fz)/\cur'.size=cur.size/\∀i,cur'[i]?=if o<=i/\i<o+vs.length/\i<cur.size then vs[i-o]? else cur[i]?:=by
 intro vs
 induction vs with
 |nil=>intro o w b cur T fz h;exact⟨cur,h,rfl,fun i=>by rw[if_neg og]⟩
 |cons v vs ih=>
  intro o w b cur T fz h;have h1:=zh h o v;obtain⟨cur',h2,h3,h4⟩:=ih (o+1) (w.setCell ⟨b,o,none⟩ v) b _ T fz h1;refine⟨cur',h2,by simpa using h3,fun i=>?_⟩;rw[h4];by_cases hi:o=i
  .subst hi;rw[if_neg oM];by_cases hs:o<cur.size
   .rw [if_pos ⟨oM,oe,hs⟩];simp[hs]
   .rw [if_neg oM];simp[hs]
  .by_cases hr:o+1<=i/\i<o+1+vs.length/\i<cur.size
   .rw [if_pos (by simpa using hr),if_pos ⟨oM,by simp;omega,hr.2.2⟩];have:i-o=(i-(o+1))+1:=oM;rw[this,List.getElem?_cons_succ]
   .rw [if_neg (by simpa using hr),if_neg (by simp at hr⊢;omega)];rw[qxg hi]
theorem yi(S:Nat->Prop)(w:World)(b o:Nat)(vs:List Value)(hS:S b):Upd S w (w.setCells b o vs):=by
 have:∀(vs:List Value) (o:Nat) (a w:World),Upd S a w->Upd S a (w.setCells b o vs):=by
  intro vs
  induction vs with
  |nil=>intro o a w h;exact h
  |cons v vs ih=>intro o a w h;exact ih _ _ _ (h.setCell ⟨b,o,none⟩ (fun _=>hS) v)
 exact this vs o w w (Upd.refl _ _)
theorem Upd.kh{S:Nat->Prop}{w w':World}{row:Option Nat}(h:w.grownBy w' row)(hS:∀g,row=some g->g<w.heap.size->S g):Upd S w w':=
 ⟨h.os,h.tape,h.output,h.size,fun j hj hn=>h.block j hj (fun e=>hn (hS j e.symm hj))⟩
theorem Sl.of_own{base:Nat}(h:w.ownsRow base e k v n xs):Sl w e k v n xs:=by
 refine⟨h.1,?_⟩;rcases h.2 with hn|⟨g,cap,cur,rfl,hb,hg,hnc,hcm,hcs,ht⟩
 .exact .inl hn
 .refine .inr ⟨g,0,cap,cur,rfl,hg,hnc,hcm,oM,fun j u hu=>?_⟩;rw[<-ht,qyp]at hu;split at hu
  .simpa using hu
  .cases hu
def ownS(v:Value):Nat->Prop:=fun g=>v.ownBlock=some g
def From(B:Nat)(v:Value):Prop:=∀g,v.ownBlock=some g->B<=g
theorem From.nil(B n c:Nat):From B (.slice none n c):=fun g h=>by cases h
theorem From.mono{B B':Nat}{v:Value}(h:From B v)(hb:B'<=B):From B' v:=fun g hg=>qXq hb (h g hg)
theorem From.own{B:Nat}{v:Value}(h:From B v):∀k,ownS v k->B<=k:=h
def blockFrom(w:World)(v v':Value):Prop:=v'.ownBlock=v.ownBlock\/∃g,v'.ownBlock=some g/\w.heap.size<=g
theorem zI{P:Program}{ops:Array Oper}{rest:List Oper}{o:Oper}{a:Act}{Q:Exit->Act->World->Prop}(hgd:o.guard=none)(s x:Operand)(t:TypeId)
  (ho:o.op=.call {callee:=.builtin .append,args:= #[s,x],argTypes:= #[t,t]})
  (i:TypeInfo) (z:Value) (bytes:Nat) (ht:P.underlying t=some (.slice e)) (hi:P.info? e=some i) (hz:i.zero=some z)
  (hsize:i.size=k) (hby:i.bytes=bytes) (hzs:z.cells.size=k) (hsz:0<k)
  (hs:a.eval s=v) (hown:Sl w e k v n xs)
  (x':Value) (m:Nat) (news:List Value) (hx:a.eval x=x') (hr:Rd w k x' m news) (h1:∀u∈news,u.oneCell'=true)
  (h63:n+m<=maxLen) (hbytes:(n+m)*bytes<=140737488355328)
  (h:∀v' w',Sl w' e k v' (n+m) (xs++news)->Upd (ownS v) w w'->blockFrom w v v'->wpList P ops Q rest (a.put o.dst v') w'):wpList P ops Q (o::rest) a w:=by
 obtain⟨hnl,hml,ao,xc,rfl,hx0,hxc⟩:=hr;cases ao with
 |none=>
  have hm0:=hx0 rfl;subst hm0;obtain rfl:news=[]:=qyb jO;have hrun:(Builtin.append_ #[t,t] o.type #[v,.slice none 0 xc]).run P w=.ok v w:=by
   obtain⟨_,⟨rfl,rfl⟩|⟨g,off,cap,cur,rfl,hg,hnc,hcm,hcs,hcell⟩⟩:=hown
   .simp [Builtin.append_,run_underlying ht,sizeOf,typeInfo,hi,Builtin.lenOf,Builtin.firstCells]
   .simp [Builtin.append_,run_underlying ht,sizeOf,typeInfo,hi,Builtin.lenOf,Builtin.firstCells,hnc,storeCells]
  refine qYz hgd fun K hK'=>?_;unfold Oper.wp;simp[execOp,ho,resolve,invoke,builtin,hs,hx,hrun,Result.andThen];exact hK' _ _ (h v w (by simpa using hown) (Upd.refl _ _) (.inl rfl))
 |some ad=>
 have hac':=hxc ad rfl;have hown':=hown;obtain⟨hl,⟨rfl,rfl⟩|⟨g,off,cap,cur,rfl,hg,hnc,hcm,hcs,hcell⟩⟩:=hown
 .obtain rfl:xs=[]:=qyb (by simpa using hl);by_cases hm0:m=0
  .subst hm0;obtain rfl:news=[]:=qyb jO;have hrun:(Builtin.append_ #[t,t] o.type #[.slice none 0 0,.slice (some ad) 0 xc]).run P w=.ok (.slice none 0 0) w:=by
    simp[Builtin.append_,run_underlying ht,sizeOf,typeInfo,hi,Builtin.lenOf,Builtin.firstCells,loadCells,loadCellsFrom]
   refine qYz hgd fun K hK'=>?_;unfold Oper.wp;simp[execOp,ho,resolve,invoke,builtin,hs,hx,hrun,Result.andThen];exact hK' _ _ (h _ w (by simpa using hown') (Upd.refl _ _) (.inl rfl))
  .refine wpList_append_grows w hgd s x t ho e i z k bytes ht hi hz hsize hby hzs hsz none 0 0 [] hs (fun _=>⟨rfl,rfl⟩) oe (fun b hb=>by cases hb) ad m xc news hx hnl hac' h1 oM h63 hbytes ?_;intro v' w' ho' hg';refine h v' w' (Sl.of_own ho') (Upd.kh hg' (fun g hg _=>by cases hg)) ?_;rcases ho'.2 with⟨rfl,h0⟩|⟨g',cap',cur',rfl,hb',_⟩
   .omega
   .exact .inr ⟨g',rfl,hb'⟩
 .refine wpList_append_arg w hgd s x t ho e i z k bytes ht hi hz hsize hby hzs hsz g off n cap xs hs hl (fun j u hj=>by rw[za hg];exact hcell j u hj) ad m xc news hx hnl hac' h1 ?_ h63 hbytes ?_ ?_
  .intro hroom j hj;have hj':off+n*k+j<cur.size:=by
    have:=qXu k hroom;rw[Nat.add_mul]at this;omega
   exact⟨by rw[za hg];simp[hj'],zf hg _⟩
  .intro hroom;obtain⟨cur',h2,h3,h4⟩:=zy news (off+n*k) w g cur e (0,0) hg;have hm:=qXu k hroom;rw[Nat.add_mul]at hm;refine h _ _ ⟨by rw[qyy,hl,hnl,Nat.add_mul],.inr ⟨g,off,cap,cur',rfl,h2,hroom,hcm,oM,fun j u hj=>?_⟩⟩ (yi _ w g _ news rfl) (.inl rfl);rw[h4];by_cases hj1:j<xs.length
   .rw [qyg hj1]at hj;rw[if_neg oM];exact hcell j u hj
   .rw [qyh oM]at hj;have hlt:=(qyl.1 hj).1;rw[if_pos ⟨oM,oM,oM⟩];have:off+j-(off+n*k)=j-xs.length:=oM;rw[this];exact hj
  .intro hfull v' w' ho' hg';refine h v' w' (Sl.of_own ho') (Upd.kh hg' (fun g hg _=>by cases hg)) ?_;rcases ho'.2 with⟨rfl,h0⟩|⟨g',cap',cur',rfl,hb',_⟩
   .omega
   .exact .inr ⟨g',rfl,hb'⟩
theorem Rd.fresh(w:World)(news:List Value)(e:TypeId){k m:Nat}(c:Nat)(hl:news.length=m*k)(hm:m<=maxLen):Rd (w.alloc (.cells news.toArray e)) k (.slice (some ⟨w.heap.size,0,none⟩) m c) m news:=by
 refine⟨hl,hm,some ⟨w.heap.size,0,none⟩,c,rfl,(fun h=>by cases h),(fun b hb=>?_)⟩;cases hb;intro j u hj;rw[qxa,za (zc _ _ rfl)];simpa using hj
theorem blockFrom.ge{w:World}{v v':Value}(h:blockFrom w v v'){B:Nat}(hB:B<=w.heap.size)(hv:From B v):From B v':=by
 intro g hg;rcases h with h|⟨g',h,hle⟩
 .exact hv g (by rw[<-h];exact hg)
 .rw [h]at hg;cases hg;omega
theorem zG{P:Program}{ops:Array Oper}{rest:List Oper}{o:Oper}{a:Act}{Q:Exit->Act->World->Prop}(hgd:o.guard=none)(s x:Operand)(t:TypeId)
  (ho:o.op=.call {callee:=.builtin .append,args:= #[s,x],argTypes:= #[t,t]})
  (i:TypeInfo) (z:Value) (bytes:Nat) (ht:P.underlying t=some (.slice e)) (hi:P.info? e=some i) (hz:i.zero=some z)
  (hsize:i.size=k) (hby:i.bytes=bytes) (hzs:z.cells.size=k) (hsz:0<k)
  (hs:a.eval s=v) (hown:Sl w e k v n xs) (news:List Value) (hx:a.eval x=.slice (some ⟨w.heap.size,0,none⟩) 1 1) (hl:news.length=k) (h1:∀u∈news,u.oneCell'=true)
  (h63:n+1<=maxLen) (hbytes:(n+1)*bytes<=140737488355328)
  (h:∀v' w',Sl w' e k v' (n+1) (xs++news)->Upd (ownS v) w w'->blockFrom w v v'->wpList P ops Q rest (a.put o.dst v') w'):
  wpList P ops Q (o::rest) a (w.alloc (.cells news.toArray e)):=by
 refine zI hgd s x t ho i z bytes ht hi hz hsize hby hzs hsz hs (hown.keep ((Upd.refl (fun _=>False) w).alloc _) (fun _ _ h=>h)) _ 1 news hx (Rd.fresh w news e 1 oM oj) h1 h63 hbytes ?_;intro v' w' h2 h3 h4;refine h v' w' h2 (Upd.new ((Upd.refl _ _).alloc _) h3 (fun i _ h=>h)) ?_;rcases h4 with h4|⟨g,h4,h5⟩
 .exact .inl h4
 .exact .inr ⟨g,h4,by simp at h5;omega⟩
theorem Rd.below{w w':World}{k n:Nat}{v:Value}{xs:List Value}(h:Rd w k v n xs)(hb:Below w.heap.size w w'):Rd w' k v n xs:=h.keep (Upd.of_below (S:=fun _=>False) hb) (fun _ _ h=>h)
theorem zj{B:Nat}{a w w':World}{S:Nat->Prop}(h:Below B a w)(hu:Upd S w w')(hB:B<=a.heap.size)(hs:∀k,S k->B<=k):Below B a w':=
 ⟨hu.os.trans h.os,hu.tape.trans h.tape,hu.output.trans h.output,qXq h.size hu.size,fun k hk=>(hu.block k (by have:=h.size;omega) (fun hS=>by have:=hs k hS;omega)).trans (h.block k hk)⟩
theorem zQ{B:Nat}{a w:World}(h:Below B a w)(n:Nat):Below B a (w.drewN n):=⟨h.os,h.tape,h.output,h.size,h.block⟩
def Dis(v u:Value):Prop:=∀g,v.ownBlock=some g->u.ownBlock=some g->False
theorem Dis.symm{v u:Value}(h:Dis v u):Dis u v:=fun g h1 h2=>h g h2 h1
theorem Dis.nil(n c:Nat)(u:Value):Dis (.slice none n c) u:=fun g h=>by cases h
theorem Dis.from{w:World}{v v' u:Value}(h:Dis v u)(hb:blockFrom w v v')(hu:∀g,u.ownBlock=some g->g<w.heap.size):Dis v' u:=by
 intro g h1 h2;rcases hb with hb|⟨g',hb,hle⟩
 .exact h g (by rw[<-hb];exact h1) h2
 .rw [hb]at h1;cases h1;have:=hu g h2;omega
theorem Sl.kz{w w':World}{e:TypeId}{k n:Nat}{v u:Value}{xs:List Value}(h:Sl w e k v n xs)(hd:Dis v u)(hu:Upd (ownS u) w w'):Sl w' e k v n xs:=
 h.keep hu (fun g hg hs=>hd g hg hs)
theorem Sl.tail{w:World}{e:TypeId}{g off n cap:Nat}{x:Value}{xs:List Value}(h:Sl w e 1 (.slice (some ⟨g,off,none⟩) (n+1) cap) (n+1) (x::xs)):
  Sl w e 1 (.slice (some ⟨g,off+1,none⟩) n (cap-1)) n xs/\(cap=1->Sl w e 1 (.slice (some ⟨g,off,none⟩) n 0) n xs)/\1<=cap:=by
 obtain⟨hl,⟨h1,_⟩|⟨g',off',cap',cur,h1,hg,hn,hm,hs,hc⟩⟩:=h
 .cases h1
 .cases h1;simp at hl;refine⟨⟨oM,.inr ⟨g,off+1,cap-1,cur,rfl,hg,oM,oM,oM,fun j u hj=>?_⟩⟩,fun hcap=>⟨oM,.inr ⟨g,off,0,cur,rfl,hg,oM,oM,oM,fun j u hj=>?_⟩⟩,oM⟩
  .have:=hc (j+1) u oz;rw[<-this];congr 1;omega
  .have:=(qyl.1 hj).1;omega
theorem Sl.ky{w w':World}{e:TypeId}{k n:Nat}{v:Value}{xs:List Value}(h:Sl w e k v n xs){b:Nat}(hu:Upd (fun j=>j=b) w w')(hne:v.ownBlock≠some b):Sl w' e k v n xs:=
 h.keep hu (fun g hg hs=>hne (by rw[hg,hs]))
theorem zi(w:World)(b i:Nat)(u:Value):Upd (fun j=>j=b) w (w.setCell ⟨b,i,none⟩ u):=Upd.setCell (S:=fun j=>j=b) (Upd.refl _ w) ⟨b,i,none⟩ (fun _=>rfl) u
end
def ints(l:List Int):List Value:=l.map (.int .i64)
@[simp]theorem zbT:ints []=[]:=rfl
@[simp]theorem zbL (x:Int)(l:List Int):ints (x::l)=.int .i64 x::ints l:=rfl
@[simp]theorem Ym (l m:List Int):ints (l++m)=ints l++ints m:=by simp[ints]
@[simp]theorem xe (l:List Int):(ints l).length=l.length:=by simp[ints]
theorem yk{l:List Int}{j:Nat}(h:j<l.length):(ints l)[j]?=some (.int .i64 l[j]):=by simp[ints,h]
abbrev Bk:=List UInt8
def bkC(x:Bk):List Value:=x.map Go.Extern.Stop.cell
def bkV(x:Bk):Value:=.agg (bkC x).toArray
def rowC(F:List Bk):List Value:=F.flatMap bkC
theorem zm(x:Bk):(bkC x).length=x.length:=by simp[bkC]
theorem zu(x:Bk):∀v∈bkC x,v.oneCell'=true:=by intro v hv;simp only[bkC,qzq]at hv;obtain⟨b,_,rfl⟩:=hv;rfl
def All64(F:List Bk):Prop:=∀x∈F,x.length=64
theorem xO{F:List Bk}(h:All64 F):(rowC F).length=F.length*64:=by
 induction F with
 |nil=>rfl
 |cons x F ih=>
  have h1:=h x oe;have h2:=ih (fun y hy=>h y (by simp[hy]));simp only[rowC,qye,qyy,zm]at h2⊢;rw[h1,qyz];omega
theorem vh{F:List Bk}(h:All64 F){i:Nat}(hi:i<F.length){j:Nat}(hj:j<64):(rowC F)[i*64+j]?=(bkC F[i])[j]?:=by
 induction F generalizing i with
 |nil=>simp at hi
 |cons x F ih=>
  have h1:=h x oe;cases i with
  |zero=>
   simp only[rowC,qye,qXz,qXx,qys];rw[qyg (by rw[zm,h1];exact hj)]
  |succ i=>
   simp only[rowC,qye,qyr];rw[qyh (by rw[zm,h1];omega),zm,h1];have:=ih (fun y hy=>h y (by simp[hy])) (i:=i) ox;rw[<-this]
   congr 1
   omega
theorem All64.set{F:List Bk}(h:All64 F)(i:Nat){x:Bk}(hx:x.length=64):All64 (F.set i x):=by
 intro y hy;rcases List.mem_or_eq_of_mem_set hy with h1|rfl
 .exact h y h1
 .exact hx
theorem sh{w:World}{g off:Nat}{cur:Array Value}{e:TypeId}{F:List Bk}(hF:All64 F)(hg:w.heap[g]?=some (.cells cur e (0,0)))(hc:∀j u,(rowC F)[j]?=some u->cur[off+j]?=some u){i:Nat}(hi:i<F.length):
  w.rangeAt g (off+i*64) (bkC F[i]):=by
 intro j v hj;have hj':=(qyl.1 hj).1;rw[zm,hF _ (qyu hi)]at hj';rw[za hg,qXl];exact hc _ _ (by rw[vh hF hi hj'];exact hj)
theorem sj{w:World}{g off n:Nat}{cur:Array Value}{e:TypeId}(hg:w.heap[g]?=some (.cells cur e (0,0))){i:Nat}(hi:i<n)(hz:off+n*64<=cur.size):w.there g (off+i*64) 64:=by
 intro j hj;rw[za hg,zf hg];exact⟨by rw[qxe oM];rfl,rfl⟩
theorem Sl.row_set{w:World}{e:TypeId}{g off cap:Nat}{F:List Bk}(hF:All64 F)(h:Sl w e 64 (.slice (some ⟨g,off,none⟩) F.length cap) F.length (rowC F)){i:Nat}(_:i<F.length){x:Bk}(hx:x.length=64):
  Sl (w.setCells g (off+i*64) (bkC x)) e 64 (.slice (some ⟨g,off,none⟩) (F.set i x).length cap) (F.set i x).length (rowC (F.set i x)):=by
 obtain⟨hl,⟨h1,_⟩|⟨g',off',cap',cur,h1,hg,hn,hm,hs,hc⟩⟩:=h
 .cases h1
 cases h1;obtain⟨cur',hb,hz,hget⟩:=zy (bkC x) (off+i*64) w g cur e (0,0) hg;refine⟨xO (hF.set i hx),.inr ⟨g,off,cap,cur',rfl,hb,by simpa using hn,hm,oM,fun j u hj=>?_⟩⟩;have hj':=(qyl.1 hj).1;rw[xO (hF.set i hx),qze]at hj';have hdm:j=j/64*64+j%64:=oM;have hjm:j%64<64:=qXt _ oM;have hjd:j/64<F.length:=oM;rw[hdm,vh (hF.set i hx) (by rw[qze];exact hjd) hjm,qyw]at hj;rw[hget,zm,hx];by_cases hij:i=j/64
 .rw [if_pos hij]at hj;rw[if_pos ⟨oM,oM,oM⟩,show off+j-(off+i*64)=j%64 by omega];exact hj
 .rw [if_neg hij]at hj;rw[if_neg oM];refine hc j u ?_;rw[hdm,vh hF hjd hjm];exact hj
theorem zo(w:World)(g o:Nat)(vs:List Value):Upd (fun j=>j=g) w (w.setCells g o vs):=yi _ w g o vs rfl
theorem Ux(w:World)(cs:Array Value)(t:TypeId)(i:Nat)(v:Value):(w.alloc (.cells cs t)).setCell ⟨w.heap.size,i,none⟩ v=w.alloc (.cells (cs.setIfInBounds i v) t):=by
 simp only[World.setCell,World.alloc,World.mk.injEq,and_true];apply qxd
 intro k;rw[Array.getElem?_modify];by_cases hk:w.heap.size=k
 .subst hk;simp
 .rw [if_neg hk];by_cases hl:k<w.heap.size
  .rw [Array.getElem?_push_lt hl,Array.getElem?_push_lt hl]
  .rw [qxf og,qxf og]
theorem wF(w:World)(t:TypeId):∀(vs:List Value) (cs:Array Value) (o:Nat),∃cs':Array Value,(w.alloc (.cells cs t)).setCells w.heap.size o vs=w.alloc (.cells cs' t)/\cs'.size=cs.size/\∀k,cs'[k]?=if o<=k/\k<o+vs.length/\k<cs.size then vs[k-o]? else cs[k]?
 |[],cs,o=>⟨cs,rfl,rfl,fun k=>by rw[if_neg og]⟩
 |v::vs,cs,o=>by
  obtain⟨cs',h1,h2,h3⟩:=wF w t vs (cs.setIfInBounds o v) (o+1);refine⟨cs',?_,by simpa using h2,fun k=>?_⟩
  .rw [World.setCells,Ux];exact h1
  .rw [h3 k];by_cases hk:o=k
   .subst hk;rw[if_neg oM];by_cases hs:o<cs.size
    .rw [if_pos ⟨oM,oe,hs⟩];simp[hs]
    .rw [if_neg oM];simp[hs]
   .by_cases hr:o+1<=k/\k<o+1+vs.length/\k<cs.size
    .rw [if_pos (by simpa using hr),if_pos ⟨oM,by simp;omega,hr.2.2⟩];have:k-o=(k-(o+1))+1:=oM;rw[this,List.getElem?_cons_succ]
    .rw [if_neg (by simpa using hr),if_neg (by simp at hr⊢;omega),qxg hk]
theorem tu(w:World)(t:TypeId)(vs:List Value)(cs:Array Value)(h:cs.size=vs.length):(w.alloc (.cells cs t)).setCells w.heap.size 0 vs=w.alloc (.cells vs.toArray t):=by
 obtain⟨cs',h1,h2,h3⟩:=wF w t vs cs 0;rw[h1];have:cs'=vs.toArray:=by
  apply qxd
  intro k;have e:vs.toArray[k]?=vs[k]?:=oe;rw[h3 k,e];by_cases hk:k<vs.length
  .rw [if_pos ⟨oM,oM,oM⟩];rfl
  .rw [if_neg oM,qxf oM,qyk oM]
 rw[this]
theorem zk{P:Program}{ops:Array Oper}{rest:List Oper}{op:Oper}{a:Act}{w:World}{Q:Exit->Act->World->Prop}(hgd:op.guard=none)(ty:TypeId)(x y:Operand)(ho:op.op=.store ty x y)
  (zs:Array Value) (t:TypeId) (vs:List Value) (hx:a.eval x=.pointer (some ⟨w.heap.size,0,none⟩)) (hy:a.eval y=.agg vs.toArray) (hz:zs.size=vs.length)
  (hi:(P.info? ty).map (·.size)=some vs.length) (h1:∀v∈vs,v.oneCell'=true)
  (h:wpList P ops Q rest (a.put op.dst undef) (w.alloc (.cells vs.toArray t))):wpList P ops Q (op::rest) a (w.alloc (.cells zs t)):=by
 refine qZa hgd ty x y ho w.heap.size 0 vs.toArray hx hy (fun j hj=>?_) ox (qYn h1) ?_
 .rw [za (zc w _ rfl),zf (zc w _ rfl)];simp at hj;exact⟨by rw[qXx,qxe oM];rfl,rfl⟩
 .rw [List.toList_toArray,tu w t vs zs hz];exact h
theorem zp{P:Program}{fn:Func}{p u:Tmp}{ty:TypeId}(h:fn.results= #[.cell p ty,.tmp u])(tmps:Array Value)(w:World)(b o:Nat)(cs:List Value)(d:TypeDesc)
  (hp:tmps.getD p undef=.pointer (some ⟨b,o,none⟩)) (hc:w.rangeAt b o cs) (hu:P.underlying ty=some d) (hd:d.isRow=true) (hi:(P.info? ty).map (·.size)=some cs.length):
  (results fn tmps).run P w=.ok (.tuple #[.agg cs.toArray,tmps.getD u undef]) w:=by
 have hp':tmps[p]?.getD undef=.pointer (some ⟨b,o,none⟩):=by simpa using hp
 rw[results_cell_tmp h];simp[hp',asAddr,run_loadVar_mid w b o ty cs d hc hu hd hi,Result.andThen]
theorem zv{P:Program}{fn:Func}{p:Tmp}{ty:TypeId}(h:fn.results= #[.cell p ty])(tmps:Array Value)(w:World)(b o:Nat)(cs:List Value)(d:TypeDesc)
  (hp:tmps.getD p undef=.pointer (some ⟨b,o,none⟩)) (hc:w.rangeAt b o cs) (hu:P.underlying ty=some d) (hd:d.isRow=true) (hi:(P.info? ty).map (·.size)=some cs.length):
  (results fn tmps).run P w=.ok (.agg cs.toArray) w:=by
 have hp':tmps[p]?.getD undef=.pointer (some ⟨b,o,none⟩):=by simpa using hp
 simp[results,h,hp',asAddr,run_loadVar_mid w b o ty cs d hc hu hd hi]
theorem zg{w:World}{g:Nat}{cs:List Value}{t:TypeId}{fz:Nat×Nat}(h:w.heap[g]?=some (.cells cs.toArray t fz)):w.rangeAt g 0 cs:=fun j v hv=>by
 rw[za h,qXx];simpa using hv
def SY(O:List (Nat×Bk)):List Value:=O.flatMap fun p=> .int .i64 (p.1:Int)::bkC p.2
structure DvGood(F:List Bk)(O:List (Nat×Bk))(P:List Int):Prop where
 f64:All64 F
 o64:∀p∈O,p.2.length=64/\p.1<F.length
 f1:1<=F.length
 fl:F.length<=4096
 ol:O.length<=65536
 pl:P.length<=65536
structure DvAt(w:World)(b:Nat)(vf vo vp:Value)(F:List Bk)(O:List (Nat×Bk))(P:List Int):Prop where
 str:w.heap[b]?=some (.cells #[vf,vo,vp] 89 (0,0))
 fs:Sl w 60 64 vf F.length (rowC F)
 os:Sl w 145 65 vo O.length (SY O)
 ps:Sl w 3 1 vp P.length (ints P)
 good:DvGood F O P
 fb:vf.ownBlock≠some b
 ob:vo.ownBlock≠some b
 pb:vp.ownBlock≠some b
 fo:Dis vf vo
 fp:Dis vf vp
 op:Dis vo vp
def dvS(b:Nat)(vf vo vp:Value):Nat->Prop:=fun j=>j=b\/vf.ownBlock=some j\/vo.ownBlock=some j\/vp.ownBlock=some j
section
variable{w w' w2:World}{b:Nat}{vf vo vp v2:Value}{F F':List Bk}{O O':List (Nat×Bk)}{P P':List Int}
theorem DvAt.keep(h:DvAt w b vf vo vp F O P){S:Nat->Prop}(hu:Upd S w w')(hs:∀j,dvS b vf vo vp j->¬S j):DvAt w' b vf vo vp F O P:=
 {h with
  str:=(hu.block _ (zd h.str) (hs b (.inl rfl))).trans h.str
  fs:=h.fs.keep hu (fun g hg=>hs g (.inr (.inl hg)))
  os:=h.os.keep hu (fun g hg=>hs g (.inr (.inr (.inl hg))))
  ps:=h.ps.keep hu (fun g hg=>hs g (.inr (.inr (.inr hg))))}
theorem DvAt.new(h:DvAt w b vf vo vp F O P)(hu:Upd (fun _=>False) w w'):DvAt w' b vf vo vp F O P:=h.keep hu (fun _ _ h=>h)
theorem DvAt.blt(h:DvAt w b vf vo vp F O P):b<w.heap.size:=zd h.str
theorem DvAt.slt(h:DvAt w b vf vo vp F O P):∀j,dvS b vf vo vp j->j<w.heap.size:=by
 rintro j (rfl|hj|hj|hj)
 .exact h.blt
 .exact h.fs.lt hj
 .exact h.os.lt hj
 .exact h.ps.lt hj
theorem DvAt.c(h:DvAt w b vf vo vp F O P):w.cell? ⟨b,0,none⟩=some vf/\w.cell? ⟨b,1,none⟩=some vo/\w.cell? ⟨b,2,none⟩=some vp:=by
 refine⟨?_,?_,?_⟩<;>rw[za h.str]<;>rfl
theorem DvAt.fz(h:DvAt w b vf vo vp F O P)(i:Nat):w.frozen? ⟨b,i,none⟩=false:=zf h.str i
end
def Dv(S:Nat->Prop)(w:World)(b:Nat)(F:List Bk)(O:List (Nat×Bk))(P:List Int):Prop:=
 ∃vf vo vp,DvAt w b vf vo vp F O P/\∀j,dvS b vf vo vp j->S j
section
variable{S:Nat->Prop}{w w':World}{b:Nat}{F:List Bk}{O:List (Nat×Bk)}{P:List Int}
theorem Dv.keep(h:Dv S w b F O P){T:Nat->Prop}(hu:Upd T w w')(hs:∀j,S j->¬T j):Dv S w' b F O P:=by
 obtain⟨vf,vo,vp,h,hS⟩:=h;exact⟨vf,vo,vp,h.keep hu (fun j hj=>hs j (hS j hj)),hS⟩
theorem Dv.new(h:Dv S w b F O P)(hu:Upd (fun _=>False) w w'):Dv S w' b F O P:=h.keep hu (fun _ _ h=>h)
theorem Dv.below(h:Dv S w b F O P)(hb:Below w.heap.size w w'):Dv S w' b F O P:=h.new (Upd.of_below hb)
theorem Dv.out(h:Dv S w b F O P){S':Nat->Prop}(hs:∀j,j<w.heap.size->S j->S' j):Dv S' w b F O P:=by
 obtain⟨vf,vo,vp,h,hS⟩:=h;exact⟨vf,vo,vp,h,fun j hj=>hs j (h.slt j hj) (hS j hj)⟩
theorem Dv.good(h:Dv S w b F O P):DvGood F O P:=by obtain⟨vf,vo,vp,h,-⟩:=h;exact h.good
end
def hasC(n:Nat)(s:Int):Int:=if s<0\/(n:Int)<=s then 10 else 0
theorem tw{S:Nat->Prop}{w:World}{b:Nat}{F:List Bk}{O:List (Nat×Bk)}{P:List Int}(h:Dv S w b F O P):
  Calls prog 78 #[.pointer (some ⟨b,0,none⟩)] w fun e w'=>e=.returned (.int .i64 F.length)/\w'=w:=by
 obtain⟨vf,vo,vp,h,-⟩:=h;obtain⟨g0,-,-⟩:=h.c;obtain⟨ao,c,rfl⟩:=h.fs.rd.jU;clear h;go_enter func78,ntmps78
 go_wp2
 go_ret
 exact⟨rfl,rfl⟩
theorem Ag{S:Nat->Prop}{w:World}{b:Nat}{F:List Bk}{O:List (Nat×Bk)}{P:List Int}(h:Dv S w b F O P):
  Calls prog 74 #[.pointer (some ⟨b,0,none⟩)] w fun e w'=>e=.returned (.int .i64 O.length)/\w'=w:=by
 obtain⟨vf,vo,vp,h,-⟩:=h;obtain⟨-,g1,-⟩:=h.c;obtain⟨ao,c,rfl⟩:=h.os.rd.jU;clear h;go_enter func74,ntmps74
 go_wp2
 go_ret
 exact⟨rfl,rfl⟩
theorem zbV{S:Nat->Prop}{w:World}{b:Nat}{F:List Bk}{O:List (Nat×Bk)}{P:List Int}(h:Dv S w b F O P)(s:Int):
  Calls prog 79 #[.pointer (some ⟨b,0,none⟩),.int .i64 s] w fun e w'=>e=.returned (.int .i64 (hasC F.length s))/\w'=w:=by
 obtain⟨vf,vo,vp,h,-⟩:=h;obtain⟨g0,-,-⟩:=h.c;have hl:=h.good.fl;obtain⟨ao,c,rfl⟩:=h.fs.rd.jU;clear h;by_cases h1:s<0
 .have e1:hasC F.length s=10:=if_pos (.inl h1);rw[e1];clear e1;go_enter func79,ntmps79
  go_wp2
  go_ret
  exact⟨rfl,rfl⟩
 .by_cases h2:(F.length:Int)<=s
  .have e1:hasC F.length s=10:=if_pos (.inr h2);rw[e1];clear e1;go_enter func79,ntmps79
   go_wp2
   go_ret
   exact⟨rfl,rfl⟩
  .have e1:hasC F.length s=0:=if_neg (fun h=>h.elim h1 h2);rw[e1];clear e1;go_enter func79,ntmps79
   go_wp2
   go_ret
   exact⟨rfl,rfl⟩
def zB:Bk:=List.replicate 64 0
theorem zH:zB.length=64:=by simp[zB]
theorem Zh:(prog.info? 60).map (fun i=>(i.zero,i.size,i.bytes))=some (some (bkV zB),64,64):=kR
theorem Yn(n:Nat)(x:Bk)(hx:x.length=64)(j:Nat)(hj:j<n*64):(rowC (List.replicate n x))[j]?=(bkC x)[j%64]?:=by
 have h64:All64 (List.replicate n x):=fun y hy=>by rw[(List.mem_replicate.1 hy).2];exact hx
 have hd:j/64<(List.replicate n x).length:=by rw[qzd];omega
 have:=vh h64 hd (j:=j%64) (qXt _ oM);rw[show j/64*64+j%64=j by omega]at this;rw[this];simp
theorem Vc(n:Nat)(h1:1<=n)(h2:n<=4096)(w:World):
  Calls prog 27 #[.int .i64 n] w fun e w'=>∃b,e=.returned (.tuple #[.pointer (some ⟨b,0,none⟩),.int .i64 0])/\
   Dv (fun j=>w.heap.size<=j) w' b (List.replicate n zB) [] []/\w.heap.size<=b/\Below w.heap.size w w':=by
 obtain⟨i,hi,hz0,hz1,hz2⟩:=qYs Zh;have hmk:=run_make (P:=prog) w 32 60 i (bkV zB) underlying32 hi hz0 .i64 .i64 n n oM (Int.le_refl _) jm oM;rw[qxt,hz1]at hmk;have q1:¬((n:Int)<1):=oM;have q2:¬((4096:Int)<n):=oM;obtain⟨C,hC⟩:∃C:Array Value,C=madeCells (bkV zB).cells (n*64):=⟨_,rfl⟩
 rw[<-hC]at hmk;have HC:Hid (C.size=n*64/\∀(j:Nat) (u:Value),(rowC (List.replicate n zB))[j]?=some u->C[j]?=some u):=by
  refine⟨by rw[hC,size_madeCells],fun j u hj=>?_⟩;have h64:All64 (List.replicate n zB):=fun y hy=>by rw[(List.mem_replicate.1 hy).2];exact zH
  have hj':=(qyl.1 hj).1;rw[xO h64,qzd]at hj';rw[Yn n zB zH j hj']at hj;have hcs:(bkV zB).cells=(bkC zB).toArray:=rfl;have hsz:(bkC zB).length=64:=by rw[zm,zH]
  rw[hC];simp only[madeCells,Array.getElem?_map,Array.getElem?_range,hj',if_true,Option.map_some,hcs,qXh,hsz];rw[getElem!_def];simp only[qyq,hj]
 clear hC hz0 hz1 hz2 hi;go_enter func27,ntmps27
 go_wp2
 go_ret2
 have hz:(w.alloc (.cells C 60)).heap.size=w.heap.size+1:=oe;have h64:All64 (List.replicate n zB):=fun y hy=>by rw[(List.mem_replicate.1 hy).2];exact zH
 have hln:(List.replicate n zB).length=n:=qzd;refine⟨w.heap.size+1,rfl,⟨.slice (some ⟨w.heap.size,0,none⟩) n n,.slice none 0 0,.slice none 0 0,⟨zc _ _ hz.symm,?_,Sl.nil _ _ _,Sl.nil _ _ _,⟨h64,oe,oM,oM,oe,oe⟩,by simp[Value.ownBlock],by simp[Value.ownBlock],by simp[Value.ownBlock],(Dis.nil _ _ _).symm,(Dis.nil _ _ _).symm,Dis.nil _ _ _⟩,?_⟩,oM,(((qxl _ w).alloc (qXo _) _).alloc oe _)⟩
 .rw [hln];refine Sl.keep (w:=w.alloc (.cells C 60)) ⟨by rw[xO h64,hln],.inr ⟨w.heap.size,0,n,C,rfl,zc w _ rfl,qXo _,by unfold maxLen;omega,by rw[HC.o.1];omega,fun j u hj=>by rw[qXx];exact HC.o.2 j u hj⟩⟩ (Upd.alloc (Upd.refl (fun _=>False) _) _) (fun _ _ h=>h)
 .rintro j (rfl|hj|hj|hj)
  .omega
  .simp [Value.ownBlock]at hj;omega
  .cases hj
  .cases hj
section
variable{w w' w2:World}{b:Nat}{vf vo vp v2:Value}{F F':List Bk}{O O':List (Nat×Bk)}{P P':List Int}
theorem Vd{w:World}{v v':Value}{x:Nat}(h:blockFrom w v v')(hv:v.ownBlock≠some x)(hx:x<w.heap.size):v'.ownBlock≠some x:=by
 intro e;rcases h with h|⟨g,h,hg⟩
 .exact hv (by rw[<-h,e])
 .rw [h]at e;cases e;omega
theorem DvAt.setPlan(h:DvAt w b vf vo vp F O P)(hu:Upd (ownS vp) w w2)(h2:Sl w2 3 1 v2 P'.length (ints P'))(hbf:blockFrom w vp v2)(hg:DvGood F O P'):DvAt (w2.setCell ⟨b,2,none⟩ v2) b vf vo v2 F O P':=
 have hne:=Vd hbf h.pb h.blt;have hstr:w2.heap[b]?=_:=(hu.block b h.blt (fun e=>h.pb e)).trans h.str
 {str:=zh hstr 2 v2
  fs:=(h.fs.kz h.fp hu).ky (zi _ _ _ _) h.fb
  os:=(h.os.kz h.op hu).ky (zi _ _ _ _) h.ob
  ps:=h2.ky (zi _ _ _ _) hne
  good:=hg
  fb:=h.fb
  ob:=h.ob
  pb:=hne
  fo:=h.fo
  fp:=(h.fp.symm.from hbf (fun _g hg=>h.fs.lt hg)).symm
  op:=(h.op.symm.from hbf (fun _g hg=>h.os.lt hg)).symm}
theorem DvAt.setOpen(h:DvAt w b vf vo vp F O P)(hu:Upd (ownS vo) w w2)(h2:Sl w2 145 65 v2 O'.length (SY O'))(hbf:blockFrom w vo v2)(hg:DvGood F O' P):DvAt (w2.setCell ⟨b,1,none⟩ v2) b vf v2 vp F O' P:=
 have hne:=Vd hbf h.ob h.blt;have hstr:w2.heap[b]?=_:=(hu.block b h.blt (fun e=>h.ob e)).trans h.str
 {str:=zh hstr 1 v2
  fs:=(h.fs.kz h.fo hu).ky (zi _ _ _ _) h.fb
  os:=h2.ky (zi _ _ _ _) hne
  ps:=(h.ps.kz h.op.symm hu).ky (zi _ _ _ _) h.pb
  good:=hg
  fb:=h.fb
  ob:=hne
  pb:=h.pb
  fo:=(h.fo.symm.from hbf (fun _g hg=>h.fs.lt hg)).symm
  fp:=h.fp
  op:=h.op.from hbf (fun _g hg=>h.ps.lt hg)}
end
theorem DvGood.tail{F:List Bk}{O:List (Nat×Bk)}{P:List Int}(h:DvGood F O P):DvGood F O P.tail:={h with pl:=by rw[List.length_tail];have:=h.pl;omega}
def fate(P:List Int):Int:=P.headD 0
theorem zbW{S:Nat->Prop}{w:World}{b g:Nat}{F:List Bk}{O:List (Nat×Bk)}{P:List Int}(h:Dv S w b F O P)(hg:w.cell? ⟨g,0,none⟩=some (.pointer (some ⟨b,0,none⟩))):
  Calls prog 128 #[.pointer (some ⟨g,0,none⟩)] w fun e w'=>e=.returned (.int .i64 (fate P))/\Dv S w' b F O P.tail/\Upd (fun j=>j=b) w w':=by
 obtain⟨vf,vo,vp,h,hS⟩:=h;have H:=Y2 h hS;obtain⟨-,-,g2⟩:=h.c;have f2:=h.fz 2;cases P with
 |nil=>
  obtain⟨ao,c,rfl⟩:=h.ps.rd.jU;clear h hS;go_enter func128,ntmps128
  go_wp2
  go_ret
  exact⟨rfl,⟨vf,vo,_,H.o.1,H.o.2⟩,Upd.refl _ _⟩
 |cons p P=>
  obtain⟨gp,op,cp,cur,rfl,hgp,hzp,hcp⟩:=h.ps.at oe;have x0:=(za hgp op).trans (hcp 0 (.int .i64 p) rfl);have hpl:=h.good.pl;have ht:=Sl.tail (h.ps:Sl w 3 1 (.slice (some ⟨gp,op,none⟩) (P.length+1) cp) (P.length+1) (.int .i64 p::ints P));have HT:=qqh ht;have hgd:Hid (DvGood F O P):=h.good.tail;clear h hS hcp hzp ht;by_cases hc1:cp=1
  .have hDv:Hid (Dv S (w.setCell ⟨b,2,none⟩ (.slice (some ⟨gp,op,none⟩) P.length 0)).drew b F O P):=
    Dv.new ⟨vf,vo,_,H.o.1.setPlan (Upd.refl _ _) (HT.o.2.1 hc1) (.inl rfl) hgd.out,H.o.2⟩ ((Upd.refl _ _).drew)
   have hU:Hid (Upd (fun j=>j=b) w (w.setCell ⟨b,2,none⟩ (.slice (some ⟨gp,op,none⟩) P.length 0)).drew):=(zi _ _ _ _).drew;subst hc1;go_enter func128,ntmps128
   go_wp2
   go_region
   go_wp2
   go_ret
   exact⟨rfl,hDv.out,hU.out⟩
  .have hDv:Hid (Dv S (w.setCell ⟨b,2,none⟩ (.slice (some ⟨gp,op+1,none⟩) P.length (cp-1))).drew b F O P):=
    Dv.new ⟨vf,vo,_,H.o.1.setPlan (Upd.refl _ _) HT.o.1 (.inl rfl) hgd.out,H.o.2⟩ ((Upd.refl _ _).drew)
   have hU:Hid (Upd (fun j=>j=b) w (w.setCell ⟨b,2,none⟩ (.slice (some ⟨gp,op+1,none⟩) P.length (cp-1))).drew):=(zi _ _ _ _).drew;go_enter func128,ntmps128
   go_wp2
   go_region
   go_wp2
   go_ret
   exact⟨rfl,hDv.out,hU.out⟩
def Qa(S:Nat->Prop)(w:World)(b:Nat)(F:List Bk)(O:List (Nat×Bk))(P:List Int)(failed:Int)(Q:World->Prop)(e:Ending)(w':World):Prop:=
 (fate P=1/\e=.returned (.int .i64 failed)/\Dv S w' b F O P.tail/\Upd (fun j=>j=b) w w')\/(fate P=0/\e=.returned (.int .i64 0)/\Q w')\/
  (fate P≠0/\fate P≠1/\e=.returned (.int .i64 0)/\Dv S w' b F O P.tail/\Upd (fun j=>j=b) w w')
theorem Qb{S:Nat->Prop}{w:World}{b:Nat}{F:List Bk}{O:List (Nat×Bk)}{P:List Int}(h:Dv S w b F O P)(failed:Int)(fd:Nat)(caps:Array Value)(Q:World->Prop)
  (hent:∀args w,(callFunc fd args).run prog w=.ok (.enter fd args) w)
  (hdo:fate P=0->∀w1,Dv S w1 b F O P.tail->Upd (fun j=>j=b) w w1->Calls prog fd caps w1 fun e w'=>e=.returned (.tuple #[])/\Q w'):
  Calls prog 80 #[.pointer (some ⟨b,0,none⟩),.int .i64 failed,.func (.func fd) #[] caps] w (Qa S w b F O P failed Q):=by
 have hmf:=qqf;have hua:Upd (fun _=>False) w (w.alloc (.cells #[.pointer (some ⟨b,0,none⟩)] 38)):=(Upd.refl _ _).alloc _;have H1:=qqh (h.new hua);have HG:Hid ((w.alloc (.cells #[.pointer (some ⟨b,0,none⟩)] 38)).cell? ⟨w.heap.size,0,none⟩=some (.pointer (some ⟨b,0,none⟩))):=za (zc w _ rfl) 0;have HD:=qqh hdo;have HU:=qqh hua;clear h hdo hua;go_enter func80,ntmps80
 go_wp2_with fail
 refine(zbW H1.o HG.o).mono ?_;rintro e w1 ⟨rfl,hd1,hu1⟩;have D1:=Y2 hd1 ((HU.o.mono fE).trans hu1);clear hd1 hu1;by_cases h1:fate P=1
 .have H1:=qqh h1;rw[h1];clear h1;go_wp2
  go_ret
  exact .inl ⟨H1.o,rfl,D1.out.1,D1.out.2⟩
 .by_cases h0:fate P=0
  .have H0:=qqh h0;rw[h0];clear h0 h1;go_wp2_with fail
   refine(HD.o H0.o w1 D1.out.1 D1.out.2).mono ?_;rintro e w2 ⟨rfl,hq⟩;have HQ:=qqh hq;clear hq;go_wp2
   go_ret
   exact .inr (.inl ⟨H0.o,rfl,HQ.o⟩)
  .have q1:(fate P==1)=false:=by simpa using h1
   have q0:(fate P==0)=false:=by simpa using h0
   have H0:=Y2 h0 h1;clear h0 h1;go_wp2
   go_ret
   exact .inr (.inr ⟨H0.o.1,H0.o.2,rfl,D1.out.1,D1.out.2⟩)
abbrev wrC(s:Int)(x:Bk):List Value:=.int .i64 s::bkC x
theorem wrC_len(s:Int)(x:Bk):(wrC s x).length=x.length+1:=by simp[wrC,zm]
theorem vU(s:Int)(x:Bk):∀v∈wrC s x,v.oneCell'=true:=by
 intro v hv;rcases qzm.1 hv with rfl|h
 .rfl
 .exact zu x v h
theorem yM(off:Nat)(cs z:Array Value):(Array.foldl (fun(cs:Array Value) (x:Value×Nat)=>cs.setIfInBounds (off+x.2) x.1) z cs.zipIdx).size=z.size/\
  ∀k,(Array.foldl (fun(cs:Array Value) (x:Value×Nat)=>cs.setIfInBounds (off+x.2) x.1) z cs.zipIdx)[k]?=if off<=k/\k<off+cs.size/\k<z.size then cs[k-off]? else z[k]?:=by
 rw[<-Array.foldl_toList,Array.toList_zipIdx];obtain⟨h1,h2⟩:=Go.Great.foldl_set off cs.toList 0 z;exact⟨h1,fun k=>by rw[h2 k];simp⟩
theorem xl(pl:Nat->Option (Nat×Nat))(z:Array Value)(i off size:Nat)(v:Value)(rest:List (Nat×Value))(hp:pl i=some (off,size))(hv:v.cells.size=size)(hz:off+size<=z.size):
  Instr.fill pl z ((i,v)::rest)=Instr.fill pl (Array.foldl (fun(cs:Array Value) (x:Value×Nat)=>cs.setIfInBounds (off+x.2) x.1) z v.cells.zipIdx) rest:=by
 show(match pl i with|none=>none|some (off,size)=>_)=_
 rw[hp];show(if(decide (v.cells.size≠size)||decide (off+v.cells.size>z.size))=true then none else _)=_;rw[if_neg (by simp[hv];omega)]
theorem Yo(p q:Value)(hp:p.cells.size=1)(hq:q.cells.size=64)(z:Array Value)(hz:z.size=65)(pl:Nat->Option (Nat×Nat))(h0:pl 0=some (0,1))(h1:pl 1=some (1,64)):
  Instr.fill pl z [(0,p),(1,q)]=some (p.cells.toList++q.cells.toList).toArray:=by
 obtain⟨a1,a2⟩:=yM 0 p.cells z;obtain⟨b1,b2⟩:=yM 1 q.cells (Array.foldl (fun(cs:Array Value) (x:Value×Nat)=>cs.setIfInBounds (0+x.2) x.1) z p.cells.zipIdx);rw[xl pl z 0 0 1 p _ h0 hp oM,xl pl _ 1 1 64 q _ h1 hq (by rw[a1];omega)];show some _=_
 congr 1
 apply qxd
 intro k;rw[b2 k,a1,hz,hq];by_cases hk:k<65
 .by_cases hk0:k=0
  .subst hk0;rw[if_neg oM,a2 0,if_pos ⟨oM,oM,oM⟩];rw[show((p.cells.toList++q.cells.toList).toArray)[0]?=(p.cells.toList++q.cells.toList)[0]? by rw[qyq],qyg og];simp
  .rw [if_pos ⟨oM,oM,hk⟩,show((p.cells.toList++q.cells.toList).toArray)[k]?=(p.cells.toList++q.cells.toList)[k]? by rw[qyq],qyh og];simp[hp]
 .rw [if_neg oM,a2 k,if_neg oM,qxf oM,qxf og]
theorem Ay:(prog.info? 145).map (fun i=>(i.zero.map (·.cells.size),i.size,i.bytes))=some (some 65,65,72):=kR
theorem Qc:(match prog.underlying 145 with|some (.struct fs)=>fs.toList.mapM (fun f=>(prog.info? f.type).map fun i=>(f.offset,i.size))|_=>none)=some [(0,1),(1,64)]:=kR
theorem xi:∃i z,prog.info? 145=some i/\i.zero=some z/\z.cells.size=65/\i.size=65/\i.bytes=72:=by
 obtain⟨i,hi,h⟩:=qYb.1 Ay;simp only[qYd]at h;obtain⟨h1,h2,h3⟩:=h;obtain⟨z,hz,hs⟩:=qYb.1 h1;exact⟨i,z,hi,hz,hs,h2,h3⟩
theorem vV(p q:Value)(hp:p.cells.size=1)(hq:q.cells.size=64)(w:World):(Instr.build 145 #[(0,p),(1,q)]).run prog w=.ok (.agg (p.cells.toList++q.cells.toList).toArray) w:=by
 refine run_build w _ _ _ ?_;obtain⟨i,z,hi,hz,hs,_,_⟩:=xi;have hpl:=Qc;have hu:=underlying145;unfold Program.built;rw[hu]at hpl;rw[hi,hu];simp only[hz];simp only at hpl;rw[hpl];exact Yo p q hp hq z.cells hs _ rfl rfl
theorem qi(v:Value)(hv:v.cells.size=65)(w:World):(Instr.buildSlice 86 1 #[(0,v)]).run prog w=.ok (.slice (some ⟨w.heap.size,0,none⟩) 1 1) (w.alloc (.cells v.cells 145)):=by
 obtain⟨i,z,hi,hz,hs,hsz,_⟩:=xi;refine run_buildSlice w _ _ 1 _ _ i z underlying86 hi hz ju ju ?_;obtain⟨a1,a2⟩:=yM 0 v.cells ((Array.range (1*i.size)).map (z.cells[·%z.cells.size]!));rw[show(#[(0,v)]:Array (Nat×Value)).toList=[(0,v)]from rfl];rw[xl _ _ 0 0 65 v _ jC hv jC];show some _=_
 congr 1
 apply qxd
 intro k;rw[a2 k];by_cases hk:k<65
 .rw [if_pos ⟨oM,oM,by simp[hsz];omega⟩];rfl
 .rw [if_neg oM,qxf jP,qxf oM]
theorem Yp(dst:Option Tmp)(ty:TypeId)(pos:String)(after:Array Edge)(p q:Operand)(a:Act)(w:World)(K:Act->World->Prop)(Q:Exit->Act->World->Prop)(hp:(a.eval p).cells.size=1)(hq:(a.eval q).cells.size=64):
  Oper.wp prog {dst:=dst,op:=.build 145 #[(0,p),(1,q)],type:=ty,pos:=pos,after:=after,guard:=none} a w K Q=K (a.put dst (.agg ((a.eval p).cells.toList++(a.eval q).cells.toList).toArray)) w:=by
 unfold Oper.wp execOp;have:=vV (a.eval p) (a.eval q) hp hq w;simp only[qzk,qzh,qzj,qYf,this,qYe];rfl
theorem Uy(dst:Option Tmp)(ty:TypeId)(pos:String)(after:Array Edge)(p:Operand)(a:Act)(w:World)(K:Act->World->Prop)(Q:Exit->Act->World->Prop)(hp:(a.eval p).cells.size=65):
  Oper.wp prog {dst:=dst,op:=.buildSlice 86 1 #[(0,p)],type:=ty,pos:=pos,after:=after,guard:=none} a w K Q=K (a.put dst (.slice (some ⟨w.heap.size,0,none⟩) 1 1)) (w.alloc (.cells (a.eval p).cells 145)):=by
 unfold Oper.wp execOp;have:=qi (a.eval p) hp w;simp only[qzk,qzh,qzj,qYf,this,qYe];rfl
theorem rI(a:Act)(p q:Operand)(w:World)(hp:(a.eval p).cells.size=1)(hq:(a.eval q).cells.size=64):
  (Instr.build 145 ((#[(0,p),(1,q)]:Array (Nat×Operand)).map fun(i,x)=>(i,a.eval x))).run prog w=.ok (.agg ((a.eval p).cells.toList++(a.eval q).cells.toList).toArray) w:=by
 have:=vV (a.eval p) (a.eval q) hp hq w;simp only[qzk,qzh,qzj];exact this
theorem Yq(a:Act)(p:Operand)(w:World)(hp:(a.eval p).cells.size=65):
  (Instr.buildSlice 86 1 ((#[(0,p)]:Array (Nat×Operand)).map fun(i,x)=>(i,a.eval x))).run prog w=.ok (.slice (some ⟨w.heap.size,0,none⟩) 1 1) (w.alloc (.cells (a.eval p).cells 145)):=by
 have:=qi (a.eval p) hp w;simp only[qzk,qzh,qzj];exact this
theorem Zi:Tryz.zeroCells145.size=65:=kR
theorem Qd(s:Int)(x:Bk)(hx:x.length=64):List.foldl (fun(cs:Array Value) (x:Value×Nat)=>cs.setIfInBounds (1+x.2) x.1) (Tryz.zeroCells145.setIfInBounds 0 (.int .i64 s)) (bkC x).zipIdx=(wrC s x).toArray:=by
 have hb:(bkC x).length=64:=by rw[zm,hx]
 have hz1:(Tryz.zeroCells145.setIfInBounds 0 (.int .i64 s)).size=65:=by rw[Array.size_setIfInBounds,Zi]
 obtain⟨_,f2⟩:=Go.Great.foldl_set 1 (bkC x) 0 (Tryz.zeroCells145.setIfInBounds 0 (.int .i64 s));apply qxd
 intro k;rw[f2 k,hz1];by_cases hk:k<65
 .by_cases hk0:k=0
  .subst hk0;rw[if_neg oM,Array.getElem?_setIfInBounds_self_of_lt (by rw[Zi];omega)];simp
  .rw [if_pos ⟨oM,oM,hk⟩];obtain⟨m,rfl⟩:∃m,k=m+1:=⟨k-1,oM⟩
   simp
 .rw [if_neg oM,qxf oM,qxf (by simp[hb];omega)]
theorem yu{P:Program}{w:World}{e:TypeId}{k n m:Nat}{v x':Value}{xs news:List Value}(t ty:TypeId)
  (i:TypeInfo) (z:Value) (bytes:Nat) (ht:P.underlying t=some (.slice e)) (hi:P.info? e=some i) (hz:i.zero=some z)
  (hsize:i.size=k) (hby:i.bytes=bytes) (hzs:z.cells.size=k) (hsz:0<k)
  (hown:Sl w e k v n xs) (hr:Rd w k x' m news) (h1:∀u∈news,u.oneCell'=true) (h63:n+m<=maxLen) (hbytes:(n+m)*bytes<=140737488355328):
  ∃v' w',(Builtin.append_ #[t,t] ty #[v,x']).run P w=.ok v' w'/\Sl w' e k v' (n+m) (xs++news)/\Upd (ownS v) w w'/\blockFrom w v v':=by
 obtain⟨hnl,hml,ao,xc,rfl,hx0,hxc⟩:=hr;cases ao with
 |none=>
  have hm0:=hx0 rfl;subst hm0;obtain rfl:news=[]:=qyb jO;refine⟨v,w,?_,by simpa using hown,Upd.refl _ _,.inl rfl⟩;obtain⟨_,⟨rfl,rfl⟩|⟨g,off,cap,cur,rfl,hg,hnc,hcm,hcs,hcell⟩⟩:=hown
  .simp [Builtin.append_,run_underlying ht,sizeOf,typeInfo,hi,Builtin.lenOf,Builtin.firstCells]
  .simp [Builtin.append_,run_underlying ht,sizeOf,typeInfo,hi,Builtin.lenOf,Builtin.firstCells,hnc,storeCells]
 |some ad=>
  have hac':=hxc ad rfl;have hown':=hown;obtain⟨hl,⟨rfl,rfl⟩|⟨g,off,cap,cur,rfl,hg,hnc,hcm,hcs,hcell⟩⟩:=hown
  .obtain rfl:xs=[]:=qyb (by simpa using hl);cases m with
   |zero=>
    obtain rfl:news=[]:=qyb jO;refine⟨.slice none 0 0,w,?_,by simpa using hown',Upd.refl _ _,.inl rfl⟩;simp[Builtin.append_,run_underlying ht,sizeOf,typeInfo,hi,Builtin.lenOf,Builtin.firstCells,loadCells,loadCellsFrom]
   |succ m=>
    obtain⟨v',w',hrun,r1,r2,_⟩:=run_append_own (P:=P) w w.heap.size t ty e i z k bytes ht hi hz hsize hby hzs hsz (.slice none 0 0) 0 [] (World.ownsRow_nil w _ e k) ad (m+1) xc news hnl hac' h1 h63 hbytes (qXo _);refine⟨v',w',hrun,Sl.of_own r1,Upd.kh r2 (fun g hg _=>by cases hg),?_⟩;rcases r1.2 with⟨rfl,h0⟩|⟨g',cap',cur',rfl,hb',_⟩
    .omega
    .exact .inr ⟨g',rfl,hb'⟩
  .by_cases hroom:n+m<=cap
   .have hm:=qXu k hroom;rw[Nat.add_mul]at hm;subst hsize;have hrun:=run_append_room_cells (P:=P) w t ty e i ht hi g off n cap ad m xc news hnl hac' h1 hroom (fun j hj=>by rw[za hg];simp;omega) (fun j _=>zf hg _);obtain⟨cur',h2,h3,h4⟩:=zy news (off+n*i.size) w g cur e (0,0) hg;refine⟨_,_,hrun,⟨by rw[qyy,hl,hnl,Nat.add_mul],.inr ⟨g,off,cap,cur',rfl,h2,hroom,hcm,oM,fun j u hj=>?_⟩⟩,yi _ w g _ news rfl,.inl rfl⟩;rw[h4];by_cases hj1:j<xs.length
    .rw [qyg hj1]at hj;rw[if_neg oM];exact hcell j u hj
    .rw [qyh oM]at hj;have hlt:=(qyl.1 hj).1;rw[if_pos ⟨oM,oM,oM⟩];have:off+j-(off+n*i.size)=j-xs.length:=oM;rw[this];exact hj
   .obtain ⟨v',w',hrun,r1,r2⟩:=run_append_arg_grows (P:=P) w t ty e i z k bytes ht hi hz hsize hby hzs hsz ⟨g,off,none⟩ n cap xs hl (fun j u hj=>by rw[qxa,za hg];exact hcell j u hj) ad m xc news hnl hac' oM h63 hbytes;refine⟨v',w',hrun,Sl.of_own r1,Upd.kh r2 (fun g hg _=>by cases hg),?_⟩;rcases r1.2 with⟨rfl,h0⟩|⟨g',cap',cur',rfl,hb',_⟩
    .omega
    .exact .inr ⟨g',rfl,hb'⟩
attribute [local go_sem↓] Yp Uy rI Yq Go.wp_at_zero Go.wp_at_succ
theorem Yr(O:List (Nat×Bk))(s:Nat)(x:Bk):SY (O++[(s,x)])=SY O++wrC s x:=by simp[SY,wrC]
theorem zq(x:Bk)(hx:x.length=64):(prog.info? 60).map (·.size)=some (bkC x).length:=by
 obtain⟨i,hi,_,h1,_⟩:=qYs Zh;rw[hi,zm,hx,Option.map_some,h1]
theorem DvGood.write{F:List Bk}{O:List (Nat×Bk)}{P:List Int}(h:DvGood F O P){s:Nat}{x:Bk}(hs:s<F.length)(hx:x.length=64)(ho:O.length<65536):DvGood F (O++[(s,x)]) P:={h with
 o64:=by intro p hp;rcases qzl.1 hp with h1|h1;exact h.o64 p h1;simp at h1;subst h1;exact⟨hx,hs⟩
 ol:=by simp;omega}
theorem zl{w:World}{a:Addr}{v:Value}(h:w.cell? a=some v)(o:Obj):(w.alloc o).cell? a=some v:=by
 rw[World.cell?_alloc_some w a o (by rw[h];rfl),h]
theorem Upd.jS{S:Nat->Prop}{w w':World}(hu:Upd S w w'){g o:Nat}{v:Value}(h:w.cell? ⟨g,o,none⟩=some v)(hn:¬S g):w'.cell? ⟨g,o,none⟩=some v:=by
 have e:=hu.block g (qYg w _ h) hn;unfold World.cell? at*;simp only[e];exact h
theorem Upd.range{S:Nat->Prop}{w w':World}(hu:Upd S w w'){g o:Nat}{cs:List Value}(h:w.rangeAt g o cs)(hn:¬S g):w'.rangeAt g o cs:=fun j v hv=>hu.jS (h j v hv) hn
theorem zt{w:World}{g o b o':Nat}{v u:Value}(h:w.cell? ⟨g,o,none⟩=some v)(hne:¬b=g):(w.setCell ⟨b,o',none⟩ u).cell? ⟨g,o,none⟩=some v:=by
 rw[World.cell?_setCell_other _ _ _ _ (fun e=>hne (congrArg Addr.block e)),h]
theorem zA{w:World}{g o b o':Nat}{cs:List Value}{u:Value}(h:w.rangeAt g o cs)(hne:¬b=g):(w.setCell ⟨b,o',none⟩ u).rangeAt g o cs:=fun j v hv=>zt (h j v hv) hne
theorem zU{P:Program}{ops:Array Oper}{o:Oper}{a:Act}{w:World}{K:Act->World->Prop}{Q:Exit->Act->World->Prop}{E:Prop}
  (hg:o.guard=none) (s x:Operand) (t:TypeId) (hop:o.op=Op.call {callee:=Callee.builtin Builtin.append,args:= #[s,x],argTypes:= #[t,t]})
  {vs vx v':Value} {w':World} (hs:a.eval s=vs) (hx:a.eval x=vx) (hrun:(Builtin.append_ #[t,t] o.type #[vs,vx]).run P w=.ok v' w')
  (hK:K (a.put o.dst v') w'):
  if Region.wanted o (yielded ops a.tmps)=true then Oper.wp P o a w K Q else E:=by
 have hw:Region.wanted o (yielded ops a.tmps)=true:=by simp[Region.wanted,hg]
 rw[if_pos hw];unfold Oper.wp;simp[execOp,hop,resolve,invoke,builtin,hs,hx,hrun,Result.andThen];exact hK
theorem Je{S:Nat->Prop}{w:World}{b g0 g1 g2:Nat}{F:List Bk}{O:List (Nat×Bk)}{P:List Int}(h:Dv S w b F O P)(hn:∀j,w.heap.size<=j->S j)(s:Nat)(x:Bk)(hs:s<F.length)(hx:x.length=64)(hO:O.length<65536)
  (c0:w.cell? ⟨g0,0,none⟩=some (.pointer (some ⟨b,0,none⟩))) (c1:w.cell? ⟨g1,0,none⟩=some (.int .i64 (s:Int))) (c2:w.rangeAt g2 0 (bkC x))
  (s0:¬S g0) (s1:¬S g1) (s2:¬S g2):
  Calls prog 81 #[.pointer (some ⟨g0,0,none⟩),.pointer (some ⟨g1,0,none⟩),.pointer (some ⟨g2,0,none⟩)] w fun e w'=>e=.returned (.tuple #[])/\Dv S w' b F (O++[(s,x)]) P/\Upd S w w':=by
 obtain⟨vf,vo,vp,h,hS⟩:=h;obtain⟨i,z,hi,hz,hzs,hsz,hby⟩:=xi;have hu:Upd (fun _=>False) w (w.alloc (.cells (wrC s x).toArray 145)).drew:=((Upd.refl _ _).alloc _).drew;have hd:=h.new hu;have hrd:Rd (w.alloc (.cells (wrC s x).toArray 145)).drew 65 (.slice (some ⟨w.heap.size,0,none⟩) 1 1) 1 (wrC s x):=
  Rd.keep (Rd.fresh w (wrC s x) 145 1 (by rw[wrC_len,hx]) oj) ((Upd.refl (fun _=>False) _).drew) (fun _ _ h=>h)
 obtain⟨v',w1,hrun,hs1,hu1,hbf⟩:=yu 86 86 i z 72 underlying86 hi hz hsz hby hzs de hd.os hrd (vU s x) oj oM;rw[<-Yr]at hs1;have hln:O.length+1=(O++[(s,x)]).length:=oe;rw[hln]at hs1;obtain⟨ao1,c1',rfl⟩:=hs1.rd.jU;have hD:=qqh (hd.setOpen hu1 hs1 hbf (hd.good.write hs hx hO));have hstr1:=(hu1.block b hd.blt (fun e=>hd.ob e)).trans hd.str;have k1:=za hstr1 1;have k2:=zf hstr1 1;simp at k1;obtain⟨-,d1,-⟩:=h.c;have hbl:=Qd (s:Int) x hx;have hut:=underlying60;have hsi:=zq x hx;have hlx:(bkC x).length=64:=by rw[zm,hx]
 have h1x:=zu x;have hS1:∀g,¬S g->¬ownS vo g:=fun g hg e=>hg (hS g (.inr (.inr (.inl e))));have q0:=hu1.jS (zl c0 _) (hS1 g0 s0);have q1:=hu1.jS (zl c1 _) (hS1 g1 s1);have q2:=hu1.range (qYi c2 _) (hS1 g2 s2);have p0:¬b=g0:=fun e=>s0 (e▸hS b (.inl rfl));have p1:¬b=g1:=fun e=>s1 (e▸hS b (.inl rfl));have p2:¬b=g2:=fun e=>s2 (e▸hS b (.inl rfl));have d2:=zl d1 (.cells (wrC s x).toArray 145);have n0:=World.new_ne w _ c0;have n1:=World.new_ne w _ c1;have nb:=World.new_ne w _ d1;have HX:=Y5 hS hn hbf hu hu1;clear hS1 hd hs1 hu1 hbf hu hrd hstr1 hS hn hln h;go_enter func81,ntmps81
 refine qZb (S:=fun W=>W.cell? ⟨g0,0,none⟩=some (.pointer (some ⟨b,0,none⟩))/\W.cell? ⟨g1,0,none⟩=some (.int .i64 (s:Int))/\W.rangeAt g2 0 (bkC x)) kR (by(go_split_ands;(simp only[qYj,qYh]at*);((repeat' constructor)<;>first|assumption|(apply zl;assumption)|(refine zt ?_ ?_<;>assumption)|(refine zA ?_ ?_<;>assumption)|(apply qYi;assumption)|(apply qYm;assumption)))) (fun hHeld=>?_);refine Wl.i [0,1,2,3,5] ?_;iterate 5 refine Wl.t hHeld ?_
 refine Wl.o ?_;refine Wl.l 6 (fun w h=>h.2.2) hut hsi hHeld ?_;refine Wl.i [7] (Wl.t hHeld (Wl.o ?_));refine qYw (rs:=[4,8]) kR oe ?_;refine qxb rfl (fun K hK=>?_) (qxb rfl (fun K hK=>?_) qxc)
 .go_simp
  refine hK.o _ _ (by(go_split_ands;(simp only[qYj,qYh]at*);((repeat' constructor)<;>first|assumption|(apply zl;assumption)|(refine zt ?_ ?_<;>assumption)|(refine zA ?_ ?_<;>assumption)|(apply qYi;assumption)|(apply qYm;assumption)))) (fun hH1=>?_);clear hK K;refine Wl.r 8 (fun K hK=>?_);go_simp
  refine hK.o _ _ (by(go_split_ands;(simp only[qYj,qYh]at*);((repeat' constructor)<;>first|assumption|(apply zl;assumption)|(refine zt ?_ ?_<;>assumption)|(refine zA ?_ ?_<;>assumption)|(apply qYi;assumption)|(apply qYm;assumption)))) (fun hH2=>?_);clear hK K;refine Wl.r 9 (fun K hK=>?_);refine zU rfl _ _ _ rfl rfl rfl hrun ?_;refine hK.o _ _ (by(go_split_ands;(simp only[qYj,qYh]at*);((repeat' constructor)<;>first|assumption|(apply zl;assumption)|(refine zt ?_ ?_<;>assumption)|(refine zA ?_ ?_<;>assumption)|(apply qYi;assumption)|(apply qYm;assumption)))) (fun hH3=>?_);clear hK K;refine Wl.i [10,11] ?_;iterate 2 refine Wl.t hH3 ?_
  refine Wl.o ?_;refine Wl.r 12 (fun K hK=>?_);go_simp
  refine hK.o _ _ (by(go_split_ands;(simp only[qYj,qYh]at*);((repeat' constructor)<;>first|assumption|(apply zl;assumption)|(refine zt ?_ ?_<;>assumption)|(refine zA ?_ ?_<;>assumption)|(apply qYi;assumption)|(apply qYm;assumption)))) (fun hH4=>?_);clear hK K;refine Wl.d ?_
  go_end0
  obtain⟨hS,hn,hbf,hu,hu1⟩:=HX.o;have hD':=hD.out;have hl':(O++[(s,x)]).length=O.length+1:=oe;rw[hl']at hD' hbf;refine⟨rfl,⟨vf,_,vp,hD',?_⟩,?_⟩
  .rintro j (rfl|h|h|h)
   .exact hS _ (.inl rfl)
   .exact hS _ (.inr (.inl h))
   .rcases hbf with e|⟨g,eg,hge⟩
    .exact hS _ (.inr (.inr (.inl (e▸h))))
    .rw [eg]at h;cases h;exact hn _ (qXq hu.size hge)
   .exact hS _ (.inr (.inr (.inr h)))
  .exact ((hu.mono fE).trans (hu1.mono (fun k _ hk=>hS _ (.inr (.inr (.inl hk)))))).trans (Upd.mono (zi _ _ _ _) (fun k _ hk=>hk▸hS _ (.inl rfl)))
 .go_simp
  refine hK.o _ _ (by(go_split_ands;(simp only[qYj,qYh]at*);((repeat' constructor)<;>first|assumption|(apply zl;assumption)|(refine zt ?_ ?_<;>assumption)|(refine zA ?_ ?_<;>assumption)|(apply qYi;assumption)|(apply qYm;assumption)))) (fun hH1=>?_);clear hK K;refine Wl.r 4 (fun K hK=>?_);go_simp
  refine hK.o _ _ (by(go_split_ands;(simp only[qYj,qYh]at*);((repeat' constructor)<;>first|assumption|(apply zl;assumption)|(refine zt ?_ ?_<;>assumption)|(refine zA ?_ ?_<;>assumption)|(apply qYi;assumption)|(apply qYm;assumption)))) (fun hH2=>?_);clear hK K;refine Wl.r 9 (fun K hK=>?_);refine zU rfl _ _ _ rfl rfl rfl hrun ?_;refine hK.o _ _ (by(go_split_ands;(simp only[qYj,qYh]at*);((repeat' constructor)<;>first|assumption|(apply zl;assumption)|(refine zt ?_ ?_<;>assumption)|(refine zA ?_ ?_<;>assumption)|(apply qYi;assumption)|(apply qYm;assumption)))) (fun hH3=>?_);clear hK K;refine Wl.i [10,11] ?_;iterate 2 refine Wl.t hH3 ?_
  refine Wl.o ?_;refine Wl.r 12 (fun K hK=>?_);go_simp
  refine hK.o _ _ (by(go_split_ands;(simp only[qYj,qYh]at*);((repeat' constructor)<;>first|assumption|(apply zl;assumption)|(refine zt ?_ ?_<;>assumption)|(refine zA ?_ ?_<;>assumption)|(apply qYi;assumption)|(apply qYm;assumption)))) (fun hH4=>?_);clear hK K;refine Wl.d ?_
  go_end0
  obtain⟨hS,hn,hbf,hu,hu1⟩:=HX.o;have hD':=hD.out;have hl':(O++[(s,x)]).length=O.length+1:=oe;rw[hl']at hD' hbf;refine⟨rfl,⟨vf,_,vp,hD',?_⟩,?_⟩
  .rintro j (rfl|h|h|h)
   .exact hS _ (.inl rfl)
   .exact hS _ (.inr (.inl h))
   .rcases hbf with e|⟨g,eg,hge⟩
    .exact hS _ (.inr (.inr (.inl (e▸h))))
    .rw [eg]at h;cases h;exact hn _ (qXq hu.size hge)
   .exact hS _ (.inr (.inr (.inr h)))
  .exact ((hu.mono fE).trans (hu1.mono (fun k _ hk=>hS _ (.inr (.inr (.inl hk)))))).trans (Upd.mono (zi _ _ _ _) (fun k _ hk=>hk▸hS _ (.inl rfl)))
theorem Dv.ku{S T:Nat->Prop}{w:World}{b:Nat}{F:List Bk}{O:List (Nat×Bk)}{P:List Int}(h:Dv S w b F O P)(hT:∀j,S j->j<w.heap.size->T j):Dv T w b F O P:=by
 obtain⟨vf,vo,vp,h,hS⟩:=h;exact⟨vf,vo,vp,h,fun j hj=>hT j (hS j hj) (h.slt j hj)⟩
theorem Dv.wide{S T:Nat->Prop}{w:World}{b:Nat}{F:List Bk}{O:List (Nat×Bk)}{P:List Int}(h:Dv S w b F O P)(hT:∀j,S j->T j):Dv T w b F O P:=by
 obtain⟨vf,vo,vp,h,hS⟩:=h;exact⟨vf,vo,vp,h,fun j hj=>hT j (hS j hj)⟩
theorem Dv.sb{S:Nat->Prop}{w:World}{b:Nat}{F:List Bk}{O:List (Nat×Bk)}{P:List Int}(h:Dv S w b F O P):S b/\b<w.heap.size:=by
 obtain⟨vf,vo,vp,h,hS⟩:=h;exact⟨hS b (.inl rfl),h.blt⟩
theorem uM{n:Nat}{s:Int}(h:hasC n s=0):(s.toNat:Int)=s/\s.toNat<n:=by
 unfold hasC at h;split at h
 .omega
 .omega
def Uz(S:Nat->Prop)(w:World)(b:Nat)(F:List Bk)(O:List (Nat×Bk))(P:List Int)(s:Int)(x:Bk)(e:Ending)(w':World):Prop:=
 (hasC F.length s≠0/\e=.returned (.int .i64 (hasC F.length s))/\Dv S w' b F O P/\Upd S w w')\/
 (hasC F.length s=0/\fate P=1/\e=.returned (.int .i64 20)/\Dv S w' b F O P.tail/\Upd S w w')\/
 (hasC F.length s=0/\fate P=0/\e=.returned (.int .i64 0)/\Dv S w' b F (O++[(s.toNat,x)]) P.tail/\Upd S w w')\/
 (hasC F.length s=0/\fate P≠0/\fate P≠1/\e=.returned (.int .i64 0)/\Dv S w' b F O P.tail/\Upd S w w')
theorem Az{S:Nat->Prop}{w:World}{b:Nat}{F:List Bk}{O:List (Nat×Bk)}{P:List Int}(h:Dv S w b F O P)(hn:∀j,w.heap.size<=j->S j)(s:Int)(x:Bk)(hx:x.length=64)(hO:O.length<65536):
  Calls prog 49 #[.pointer (some ⟨b,0,none⟩),.int .i64 s,bkV x] w (Uz S w b F O P s x):=by
 have hmf:=qqf;have H:=Y4 h hn hx hO;clear h hn hx hO;go_enter func49,ntmps49
 go_wp2_with fail
 rename_i xv cs heq
 obtain rfl:(bkC x).toArray=cs:=by injection heq
 clear heq;have hu:Upd (fun _=>False) w (((w.alloc (.cells #[.pointer (some ⟨b,0,none⟩)] 38)).alloc (.cells #[.int .i64 s] 3)).alloc (.cells (bkC x).toArray 60)):=(((Upd.refl _ w).alloc _).alloc _).alloc _;have c0:(((w.alloc (.cells #[.pointer (some ⟨b,0,none⟩)] 38)).alloc (.cells #[.int .i64 s] 3)).alloc (.cells (bkC x).toArray 60)).cell? ⟨w.heap.size,0,none⟩=some (.pointer (some ⟨b,0,none⟩)):=
  zl (zl (za (zc w _ rfl) 0) _) _
 have c1:(((w.alloc (.cells #[.pointer (some ⟨b,0,none⟩)] 38)).alloc (.cells #[.int .i64 s] 3)).alloc (.cells (bkC x).toArray 60)).cell? ⟨w.heap.size+1,0,none⟩=some (.int .i64 s):=
  zl (za (zc _ _ oe) 0) _
 have c2:(((w.alloc (.cells #[.pointer (some ⟨b,0,none⟩)] 38)).alloc (.cells #[.int .i64 s] 3)).alloc (.cells (bkC x).toArray 60)).rangeAt (w.heap.size+1+1) 0 (bkC x):=fun j v hv=>by
  rw[za (zc _ _ oe)];simpa using hv
 have hsz:(((w.alloc (.cells #[.pointer (some ⟨b,0,none⟩)] 38)).alloc (.cells #[.int .i64 s] 3)).alloc (.cells (bkC x).toArray 60)).heap.size=w.heap.size+3:=oe;generalize (((w.alloc (.cells #[.pointer (some ⟨b,0,none⟩)] 38)).alloc (.cells #[.int .i64 s] 3)).alloc (.cells (bkC x).toArray 60))=w3 at hu c0 c1 c2 hsz⊢;have hd3:Dv S w3 b F O P:=H.o.1.keep hu (fun _ _ h=>h);have HX:=Y4 hd3 hu c2 hsz;clear hd3 hu c2 hsz;refine(zbV HX.o.1 s).mono ?_;rintro e w4 ⟨rfl,rfl⟩;by_cases hz:hasC F.length s=0
 .have HZ:=qqh hz;rw[hz];clear hz;go_wp2_with fail
  obtain⟨hd0,hn,hx,hO⟩:=H.o;obtain⟨-,hu,c2,hsz⟩:=HX.o;have hS':∀j,((S j/\j<w.heap.size)\/w.heap.size+3<=j)->S j:=by
   rintro j (⟨h,-⟩|h)
   .exact h
   .exact hn j oM
  have hd4:Dv (fun j=>(S j/\j<w.heap.size)\/w.heap.size+3<=j) w4 b F O P:=(hd0.ku (fun j hj hl=> .inl ⟨hj,hl⟩)).keep hu (fun _ _ h=>h);have hbS:=hd0.sb;have hzz:=uM HZ.o;have HO:=Y2 hS' hu;have HZ2:=qqh HZ.o;refine(Qb hd4 20 81 _ (fun W=>Dv (fun j=>(S j/\j<w.heap.size)\/w.heap.size+3<=j) W b F (O++[(s.toNat,x)]) P.tail/\Upd (fun j=>(S j/\j<w.heap.size)\/w.heap.size+3<=j) w4 W) (fun _ _=>rfl) ?_).mono ?_
  .intro h0 w1 hd1 hu1;have hb4:∀k,¬w.heap.size+k=b:=fun k=>oM;refine(Je hd1 (fun j hj=> .inr (by have:=hu1.size;omega)) s.toNat x hzz.2 hx hO (hu1.jS c0 (hb4 0)) (by rw[hzz.1];exact hu1.jS c1 (hb4 1)) (hu1.range c2 (hb4 2)) oM oM oM).mono ?_;rintro e w' ⟨rfl,hD,hU⟩;exact⟨rfl,hD,(hu1.mono (fun j _ hj=>hj▸ .inl ⟨hbS.1,hbS.2⟩)).trans hU⟩
  .clear hd4 hd0 hn hx hO hu c2 hsz hS' c0 c1 hzz;have HB:=qqh hbS;clear hbS;rintro e w5 (⟨h1,rfl,hD,hU⟩|⟨h1,rfl,hD,hU⟩|⟨h1,h2,rfl,hD,hU⟩)
   .have D:=Y3 h1 hD hU;clear h1 hD hU;go_wp2
    go_ret
    exact .inr (.inl ⟨HZ.o,D.out.1,rfl,D.out.2.1.wide HO.o.1,(HO.o.2.mono fE).trans (D.out.2.2.mono (fun j _ hj=>hj▸HB.o.1))⟩)
   .have D:=Y3 h1 hD hU;clear h1 hD hU;go_wp2
    go_ret
    exact .inr (.inr (.inl ⟨HZ.o,D.out.1,rfl,D.out.2.1.wide HO.o.1,(HO.o.2.mono fE).trans (D.out.2.2.mono (fun j _ hj=>HO.o.1 j hj))⟩))
   .have D:=Y4 h1 h2 hD hU;clear h1 h2 hD hU;go_wp2
    go_ret
    exact .inr (.inr (.inr ⟨HZ.o,D.out.1,D.out.2.1,rfl,D.out.2.2.1.wide HO.o.1,(HO.o.2.mono fE).trans (D.out.2.2.2.mono (fun j _ hj=>hj▸HB.o.1))⟩))
 .have HZ:=qqh hz;have hz':(hasC F.length s==0)=false:=by simpa using hz
  clear hz;go_wp2
  go_ret
  exact .inl ⟨HZ.o,rfl,HX.o.1,HX.o.2.1.mono fE⟩
def idxI(l:List Int)(k:Int):Int:=match l.findIdx? (·==k)with|some i=>(i:Int)|none=> -1
theorem Qe{l:List Int}{k:Int}{i:Nat}(hi:i<l.length)(he:l[i]=k)(hb:∀j (h:j<l.length),j<i->l[j]≠k):idxI l k=i:=by
 unfold idxI;have:l.findIdx? (·==k)=some i:=by
  rw[List.findIdx?_eq_some_iff_getElem];exact⟨hi,by simpa using he,fun j hj=>by simpa using hb j oM hj⟩
 rw[this]
theorem sk{l:List Int}{k:Int}(hb:∀j (h:j<l.length),l[j]≠k):idxI l k= -1:=by
 unfold idxI;have:l.findIdx? (·==k)=none:=by
  rw[List.findIdx?_eq_none_iff];intro x hx;obtain⟨j,hj,rfl⟩:=qyv hx;simpa using hb j hj
 rw[this]
theorem XP{w:World}{v:Value}{l:List Int}(h:Rd w 1 v l.length (ints l))(hle:l.length<=4096)(k:Int):
  Calls prog 373 #[v,.int .i64 k] w fun e w'=>e=.returned (.int .i64 (idxI l k))/\w'=w:=by
 have H:=qqh h;obtain⟨ao,c,rfl⟩:=h.jU;clear h;go_enter func373,ntmps373
 go_wp2
 go_loopg[8] l.length (fun g i wr=>∃j:Nat,j+g=l.length/\i=.int .i64 j/\(∀m (h:m<l.length),m<j->l[m]≠k)/\wr=w)
 case atStart=>exact⟨0,oM,rfl,fun m h hm=>oM,rfl⟩
 case round=>
  obtain⟨j,hj,rfl,hno,rfl⟩:=hrel;by_cases hlt:j<l.length
  .obtain ⟨g,off,c',hv,hg,hc⟩:=H.o.at oM;cases hv;have hcj:=hc j _ (yk hlt);have HN:=qqh hno;clear hc hno;by_cases he:l[j]=k
   .have hb:(k==l[j])=true:=by simp[he]
    have ha:Hid (idxI l k=j):=Qe hlt he HN.o;clear he;go_wp2
    go_ret
    exact⟨by rw[ha.out];rfl,rfl⟩
   .have hb:(k==l[j])=false:=by simp;exact fun e=>he e.symm
    have hne:Hid (l[j]≠k):=he;clear he;go_wp2
    go_roundg (gk-1)
    case measure=>omega
    case rel=>exact⟨j+1,oM,by go_num,fun m hm hmj=>by
     by_cases e:m=j
     .subst e;exact hne.out
     .exact HN.o m hm oM,rfl⟩
  .obtain rfl:j=l.length:=oM;have ha:Hid (idxI l k= -1):=sk (fun m hm=>hno m hm hm);clear hno;go_wp2
   go_ret
   exact⟨by rw[ha.out];rfl,rfl⟩
theorem wg(a b:Nat)(ha:a<4611686018427387904)(hb:b<4611686018427387904):bits .xor .i64 (a:Int) (b:Int)=((a^^^b:Nat):Int):=by
 have hx:a^^^b<2^62:=Nat.xor_lt_two_pow oM oM;have h1:(BitVec.ofInt 64 (a:Int)).toNat=a:=by rw[qxm,qxn];exact qXs oM
 have h2:(BitVec.ofInt 64 (b:Int)).toNat=b:=by rw[qxm,qxn];exact qXs oM
 show IntKind.i64.wrap ((BitVec.ofInt 64 (a:Int)^^^BitVec.ofInt 64 (b:Int)).toNat:Int)=_;rw[BitVec.toNat_xor,h1,h2,IntKind.wrap_i64];omega
theorem vW(a b:Nat)(ha:a<4611686018427387904)(hb:b<4611686018427387904):bits .and .i64 (a:Int) (b:Int)=((a&&&b:Nat):Int):=by
 have hx:a&&&b<2^62:=Nat.and_lt_two_pow _ oM;have h1:(BitVec.ofInt 64 (a:Int)).toNat=a:=by rw[qxm,qxn];exact qXs oM
 have h2:(BitVec.ofInt 64 (b:Int)).toNat=b:=by rw[qxm,qxn];exact qXs oM
 show IntKind.i64.wrap ((BitVec.ofInt 64 (a:Int)&&&BitVec.ofInt 64 (b:Int)).toNat:Int)=_;rw[BitVec.toNat_and,h1,h2,IntKind.wrap_i64];omega
theorem Ys(a b:Nat)(ha:a<4611686018427387904)(hb:b<4611686018427387904):bits .or .i64 (a:Int) (b:Int)=((a|||b:Nat):Int):=by
 have hx:a|||b<2^62:=Nat.or_lt_two_pow oM oM
 have h1:(BitVec.ofInt 64 (a:Int)).toNat=a:=by rw[qxm,qxn];exact qXs oM
 have h2:(BitVec.ofInt 64 (b:Int)).toNat=b:=by rw[qxm,qxn];exact qXs oM
 show IntKind.i64.wrap ((BitVec.ofInt 64 (a:Int)|||BitVec.ofInt 64 (b:Int)).toNat:Int)=_;rw[BitVec.toNat_or,h1,h2,IntKind.wrap_i64];omega
def nibT:List Nat:=[0,274646895,549293790,820201905,1098587580,1361435347,1640403810,1905808397,2197175160,2460548119,2722870694,2987750089,3280807620,3553878443,3811616794,4084100981]
def nibC(i:Nat):Nat:=nibT.getD i 0
theorem Ve(i:Nat):nibC i<4294967296:=by
 unfold nibC nibT;by_cases h:i<16
 .have:i=0\/i=1\/i=2\/i=3\/i=4\/i=5\/i=6\/i=7\/i=8\/i=9\/i=10\/i=11\/i=12\/i=13\/i=14\/i=15:=oM;rcases this with rfl|rfl|rfl|rfl|rfl|rfl|rfl|rfl|rfl|rfl|rfl|rfl|rfl|rfl|rfl|rfl<;>decide
 .rw [qyf,qyk og];decide
def stepC(s f:Nat):Nat:=(s/16)^^^nibC ((s^^^f)&&&15)
theorem qj{s f:Nat}(h:s<4294967296):stepC s f<4294967296:=by
 unfold stepC;exact Nat.xor_lt_two_pow (n:=32) oM (Ve _)
def Vf(s:Nat)(b:UInt8):Nat:=stepC (stepC s (b.toNat&&&15)) (b.toNat/16)
theorem byteC_lt{s:Nat}{b:UInt8}(h:s<4294967296):Vf s b<4294967296:=qj (qj h)
def sumC(xs:List UInt8):Nat:=xs.foldl Vf 4294967295
theorem UA(xs:List UInt8)(b:UInt8):sumC (xs++[b])=Vf (sumC xs) b:=by simp[sumC]
theorem Zj(xs:List UInt8):sumC xs<4294967296:=by
 have:∀(xs:List UInt8) (s:Nat),s<4294967296->xs.foldl Vf s<4294967296:=by
  intro xs
  induction xs with
  |nil=>intro s h;exact h
  |cons b xs ih=>intro s h;exact ih _ (byteC_lt h)
 exact this xs _ oM
def crcC(xs:List UInt8):Nat:=sumC xs^^^4294967295
theorem vX(xs:List UInt8):crcC xs<4294967296:=Nat.xor_lt_two_pow (n:=32) (Zj xs) de
def lowB(n:Nat):Nat->List UInt8
 |0=>[]
 |k+1=>UInt8.ofNat n::lowB (n/256) k
theorem zY(n k:Nat):(lowB n k).length=k:=by
 induction k generalizing n with
 |zero=>rfl
 |succ k ih=>simp[lowB,ih]
def numB:List UInt8->Nat
 |[]=>0
 |b::l=>b.toNat+256*numB l
theorem Yt(n k:Nat)(h:n<256^k):numB (lowB n k)=n:=by
 induction k generalizing n with
 |zero=>simp at h;subst h;rfl
 |succ k ih=>
  simp only[lowB,numB];rw[ih (n/256) (by rw[Nat.div_lt_iff_lt_mul oM];rw[Nat.pow_succ]at h;exact h)];have:(UInt8.ofNat n).toNat=n%256:=oe;rw[this];omega
def sealB(b:Bk):Bk:=b.take 60++lowB (crcC (b.take 60)) 4
theorem vj{b:Bk}(h:b.length=64):(sealB b).length=64:=by simp[sealB,zY,h]
theorem XQ{b:Bk}(h:b.length=64):(sealB b).take 60=b.take 60:=by
 exact List.take_left' (by simp[h])
theorem XR{b:Bk}(h:b.length=64):sealB (sealB b)=sealB b:=by
 show(sealB b).take 60++_=_;rw[XQ h];rfl
end Go.Proofs.YtpejdgiccaijfaaGreatDoor
namespace Go.Proofs.YtpejdgiccaijfaaGreatDoor
open Go Go.RowKit
def Stop(G:Prop):Prop:=G
theorem Stop.i{G:Prop}(h:Stop G):G:=h
theorem qqu{w w1:World}{o:Obj}(h:w1=w.alloc o):Upd (fun _=>False) w w1:=by rw[h];exact (Upd.refl _ w).alloc _
theorem qqb{w w1:World}(h:Below w.heap.size w w1):Upd (fun _=>False) w w1:=Upd.of_below h
theorem qqg{w w1:World}{o:Obj}(h:w1=w.alloc o):w1.heap[w.heap.size]?=some o:=by rw[h];exact zc w _ rfl
theorem uur:type_of% @Upd.refl:=@Upd.refl
theorem uuo:type_of% @Upd.of_below:=@Upd.of_below
end Go.Proofs.YtpejdgiccaijfaaGreatDoor
