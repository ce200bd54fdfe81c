/- Words on worlds: what a call may have turned ( -/
import Derived.Test.YtfhfbpmlnjdfoaaGreatDoorG00
import Derived.WalkKit
import Derived.ProofKit
import Derived.OpenShut
import Derived.Handy
import Derived.Deep.QuietTactic
import Derived.BigQuiet
import Derived.StillTailTactics
import Derived.Lib.Hide
import Derived.Deep.LoopGhost
import Derived.Deep.DeepCutAuto
import Derived.Deep.RegionHeld3
import Derived.Deep.MidRow
import Derived.Deep.RegionWith
import Derived.WalkSpells
import Derived.WalkMore
import Derived.Test.YtfhfbpmlnjdfoaaGreatDoorProg
import Derived.Stop.BytesEq
import Derived.Laws.ResultCell
namespace Go.Proofs.YtfhfbpmlnjdfoaaGreatDoor
open Go Go.RowKit
structure Upd(S:Nat->Prop)(w w':World):Prop where
 os:w'.os=w.os
 tape:w'.tape=w.tape
 output:w'.output=w.output
 size:w.heap.size<=w'.heap.size
 block:∀k,k<w.heap.size->¬S k->w'.heap[k]?=w.heap[k]?
namespace Upd
theorem refl(S:Nat->Prop)(w:World):Upd S w w:=⟨rfl,rfl,rfl,qXv _,fun _ _ _=>rfl⟩
theorem trans{S:Nat->Prop}{a b c:World}(h:Upd S a b)(k:Upd S b c):Upd S a c:=
 ⟨k.os.trans h.os,k.tape.trans h.tape,k.output.trans h.output,qXx h.size k.size,
  fun i hi hs=>(k.block i (qXy hi h.size) hs).trans (h.block i hi hs)⟩
theorem mono{S S':Nat->Prop}{a b:World}(h:Upd S a b)(hs:∀k,k<a.heap.size->S k->S' k):Upd S' a b:=
 ⟨h.os,h.tape,h.output,h.size,fun i hi hn=>h.block i hi fun hS=>hn (hs i hi hS)⟩
theorem drew{S:Nat->Prop}{a w:World}(h:Upd S a w):Upd S a w.drew:=⟨h.os,h.tape,h.output,h.size,h.block⟩
theorem drewN{S:Nat->Prop}{a w:World}(h:Upd S a w)(n:Nat):Upd S a (w.drewN n):=⟨h.os,h.tape,h.output,h.size,h.block⟩
theorem alloc{S:Nat->Prop}{a w:World}(h:Upd S a w)(o:Obj):Upd S a (w.alloc o):=
 h.trans ⟨rfl,rfl,rfl,by simp,fun k hk _=>qxk _ _ _ hk⟩
theorem setCell{S:Nat->Prop}{a w:World}(h:Upd S a w)(p:Addr)(hp:p.block<a.heap.size->S p.block)(u:Value):Upd S a (w.setCell p u):=
 ⟨h.os,h.tape,h.output,by simpa using h.size,fun k hk hs=>by
  rw[Below.heap_setCell]
  .exact h.block k hk hs
  .rintro rfl;exact hs (hp hk)⟩
theorem below{a w:World}(h:Upd (fun _=>False) a w):Below a.heap.size a w:=
 ⟨h.os,h.tape,h.output,h.size,fun k hk=>h.block k hk (fun h=>h)⟩
theorem of_below{S:Nat->Prop}{a w:World}(h:Below a.heap.size a w):Upd S a w:=
 ⟨h.os,h.tape,h.output,h.size,fun k hk _=>h.block k hk⟩
theorem new{S S':Nat->Prop}{a w w':World}(h:Upd S' a w)(k:Upd S w w')(hs:∀i,i<a.heap.size->S i->S' i):Upd S' a w':=
 ⟨k.os.trans h.os,k.tape.trans h.tape,k.output.trans h.output,qXx h.size k.size,
  fun i hi hn=>(k.block i (qXy hi h.size) fun hS=>hn (hs i hi hS)).trans (h.block i hi hn)⟩
theorem cell{S:Nat->Prop}{w w':World}(h:Upd S w w'){p:Addr}(hp:p.block<w.heap.size)(hs:¬S p.block):w'.cell? p=w.cell? p:=
 World.cell?_of_block (w:=w) (h.block p.block hp hs)
theorem frozen{S:Nat->Prop}{w w':World}(h:Upd S w w'){p:Addr}(hp:p.block<w.heap.size)(hs:¬S p.block):w'.frozen? p=w.frozen? p:=
 World.frozen?_of_block (w:=w) (h.block p.block hp hs)
theorem cellAt{S:Nat->Prop}{w w':World}(h:Upd S w w'){b o:Nat}(hp:b<w.heap.size)(hs:¬S b):w'.cell? ⟨b,o,none⟩=w.cell? ⟨b,o,none⟩:=h.cell (p:=⟨b,o,none⟩) hp hs
theorem frozenAt{S:Nat->Prop}{w w':World}(h:Upd S w w'){b o:Nat}(hp:b<w.heap.size)(hs:¬S b):w'.frozen? ⟨b,o,none⟩=w.frozen? ⟨b,o,none⟩:=h.frozen (p:=⟨b,o,none⟩) hp hs
theorem lt{S:Nat->Prop}{w w':World}(h:Upd S w w'){k:Nat}(hk:k<w.heap.size):k<w'.heap.size:=qXy hk h.size
end Upd
theorem zd{w:World}{b:Nat}{o:Obj}(h:w.heap[b]?=some o):b<w.heap.size:=(Array.getElem?_eq_some_iff.1 h).1
theorem za{w:World}{b:Nat}{cs:Array Value}{T:TypeId}{fz:Nat×Nat}(h:w.heap[b]?=some (.cells cs T fz))(i:Nat):w.cell? ⟨b,i,none⟩=cs[i]?:=by
 simp[World.cell?,h]
theorem zf{w:World}{b:Nat}{cs:Array Value}{T:TypeId}(h:w.heap[b]?=some (.cells cs T (0,0)))(i:Nat):w.frozen? ⟨b,i,none⟩=false:=by
 simp[World.frozen?,h]
theorem zh{w:World}{b:Nat}{cs:Array Value}{T:TypeId}{fz:Nat×Nat}(h:w.heap[b]?=some (.cells cs T fz))(i:Nat)(u:Value):
  (w.setCell ⟨b,i,none⟩ u).heap[b]?=some (.cells (cs.setIfInBounds i u) T fz):=by
 simp[World.setCell,Array.getElem?_modify,h]
theorem zc(w:World)(o:Obj){n:Nat}(h:n=w.heap.size):(w.alloc o).heap[n]?=some o:=by
 subst h;show(w.heap.push o)[w.heap.size]?=_;simp
def Wl(_:List Nat)(G:Prop):Prop:=G
namespace Wl
theorem i{G:Prop}(l:List Nat)(h:Wl l G):G:=h
theorem o{G:Prop}(h:G):Wl [] G:=h
section
variable{P:Program}{md:Region.Mode}{ops:Array Oper}{Q:Exit->Act->World->Prop}{S:World->Prop}{k:Nat}{oi:Oper}{v:Value}{fuel:Nat}{listed:Array Bool}{a a':Act}{w:World}{ks:List Nat}
theorem t(hS:S w)(h:Wl ks (wpAnyH P md ops Q S fuel (listed.setIfInBounds k true) a' w))(hi:ops[k]?=some oi:=by rfl)(hs:Region.noSelect ops=true:=by kernel_rfl)(hf:Region.free md ops listed k=true:=by kernel_rfl)
  (hr:(Region.ready md ops listed).contains k=true:=by kernel_rfl) (hQ:∀c a w,Q (.panic c) (a.put oi.dst v) w->Q (.panic c) a w:=by exact fun _ _ _ h=>h)
  (hy:YieldsIf P ops S oi v a:=by first|(refine Or.inr ⟨?_,rfl⟩;rfl)|(refine Or.inl ⟨?_,?_⟩;rfl;intro W hSw;(try dsimp only at hSw);(try go_split_ands);go_simp;(try with_reducible rfl)))
  (ha:a.put oi.dst v=a':=by simp only[qzc,qyw,qyx,Act.put,qXi,qXl,qXk];rfl):Wl (k::ks) (wpAnyH P md ops Q S (fuel+1) listed a w):=
 qZf hi hs hf hr hQ hy hS (ha▸h)
theorem l(k:Nat){ty:TypeId}{x:Operand}{b o:Nat}{cs:List Value}{d:TypeDesc}(hS:∀w,S w->w.rangeAt b o cs)(hu:P.underlying ty=some d)(hz:(P.info? ty).map (·.size)=some cs.length)(hw:S w)
  (h:wpAnyH P md ops Q S fuel (listed.setIfInBounds k true) a' w) (hi:ops[k]?=some oi:=by rfl) (hs:Region.noSelect ops=true:=by kernel_rfl) (hf:Region.free md ops listed k=true:=by kernel_rfl)
  (hr:(Region.ready md ops listed).contains k=true:=by kernel_rfl) (hQ:∀c a w,Q (.panic c) (a.put oi.dst (.agg cs.toArray)) w->Q (.panic c) a w:=by exact fun _ _ _ h=>h)
  (hg:Region.wanted oi (yielded ops a.tmps)=true:=by rfl) (ho:oi.op=.load ty x:=by rfl) (hx:a.eval x=.pointer (some ⟨b,o,none⟩):=by rfl) (hd:d.isRow=true:=by rfl)
  (ha:a.put oi.dst (.agg cs.toArray)=a':=by simp only[qzc,qyw,qyx,Act.put,qXi,qXl,qXk];rfl):wpAnyH P md ops Q S (fuel+1) listed a w:=
 qZf hi hs hf hr hQ (qZl hg ty x ho b o hx cs d hS hu hd hz) hw (ha▸h)
theorem r(k:Nat)(h:∀K':Act->World->Prop,Shut (∀a w,S w->(S w->wpAnyH P md ops Q S fuel (listed.setIfInBounds k true) a w)->K' a w)->if Region.wanted oi (yielded ops a.tmps)=true then Oper.wp P oi a w K' Q else K' (a.put oi.dst undef) w)
  (hi:ops[k]?=some oi:=by rfl) (hr:Region.ready md ops listed=[k]:=by kernel_rfl):wpAnyH P md ops Q S (fuel+1) listed a w:=
 qZe hr (by simp) (qxb hi h qxc)
theorem d(h:Q .normal a w)(hr:Region.ready md ops listed=[]:=by kernel_rfl):wpAnyH P md ops Q S fuel listed a w:=wpAnyH_done hr h _
end
end Wl
structure Thing(R:(Nat->Prop)->World->Prop):Prop where
 keep:∀{S T:Nat->Prop} {w w':World},R S w->Upd T w w'->(∀j,S j->¬T j)->R S w'
 out:∀{S S':Nat->Prop} {w:World},R S w->(∀j,j<w.heap.size->S j->S' j)->R S' w
def grow(own:Nat->Nat)(t n n':Nat):Nat->Nat:=fun j=>if n<=j/\j<n' then t else own j
theorem zx{own:Nat->Nat}{t n n' j:Nat}(h:j<n):grow own t n n' j=own j:=if_neg (by omega)
theorem ZC{own:Nat->Nat}{t n n' j:Nat}(h:n<=j)(h':j<n'):grow own t n n' j=t:=if_pos ⟨h,h'⟩
structure Did(own own':Nat->Nat)(w w':World):Prop where
 upd:Upd (fun j=>own j≠0/\own j<16) w w'
 old:∀j,j<w.heap.size->own' j=own j
 new:∀j,w.heap.size<=j->own' j<16
 far:∀j,w'.heap.size<=j->own' j=0
section
variable{own own' own2:Nat->Nat}{w w' w2:World}{R:(Nat->Prop)->World->Prop}{t k:Nat}
theorem Did.refl(h:∀j,w.heap.size<=j->own j=0):Did own own w w:=⟨Upd.refl _ _,fun _ _=>rfl,fun j hj=>by rw[h j hj];decide,h⟩
theorem Did.trans(h:Did own own' w w')(g:Did own' own2 w' w2):Did own own2 w w2 where
 upd:=h.upd.new g.upd (fun j hj hs=>by rw[<-h.old j hj];exact hs)
 old:=fun j hj=>(g.old j (qXy hj h.upd.size)).trans (h.old j hj)
 new:=fun j hj=>by
  by_cases hl:j<w'.heap.size
  .rw [g.old j hl];exact h.new j hj
  .exact g.new j (by omega)
 far:=g.far
theorem Did.drew(h:Did own own' w w'):Did own own' w w'.drew:=⟨h.upd.drew,h.old,h.new,h.far⟩
theorem Did.setCell(h:Did own own' w w')(p:Addr)(hp:p.block<w.heap.size->own p.block≠0/\own p.block<16)(u:Value):Did own own' w (w'.setCell p u):=
 ⟨h.upd.setCell p hp u,h.old,h.new,fun j hj=>h.far j (by simpa using hj)⟩
theorem Did.step(hf:∀j,w.heap.size<=j->own j=0)(ht:t≠0)(h16:t<16)(hu:Upd (fun j=>own j=t\/w.heap.size<=j) w w'):Did own (grow own t w.heap.size w'.heap.size) w w' where
 upd:=hu.mono (fun j hj hs=>by rcases hs with hs|hs;exact hs▸⟨ht,h16⟩;omega)
 old:=fun j hj=>zx hj
 new:=fun j hj=>by
  unfold grow;split
  .exact h16
  .rw [hf j hj];decide
 far:=fun j hj=>by
  have:=hu.size;unfold grow;rw[if_neg (by omega)];exact hf j (by omega)
theorem Thing.other(hR:Thing R)(h:R (fun j=>own j=k) w)(hk:k≠t)(hu:Upd (fun j=>own j=t\/w.heap.size<=j) w w'):R (fun j=>grow own t w.heap.size w'.heap.size j=k) w':=by
 have h1:R (fun j=>own j=k/\j<w.heap.size) w:=hR.out h (fun j hj hs=>⟨hs,hj⟩);have h2:=hR.keep h1 hu (fun j hs ht=>by rcases ht with ht|ht;exact hk (hs.1.symm.trans ht);omega);exact hR.out h2 (fun j hj hs=>by rw[zx hs.2];exact hs.1)
theorem Thing.mine(hR:Thing R)(_hu:w.heap.size<=w'.heap.size)(h:R (fun j=>own j=t\/w.heap.size<=j) w'):R (fun j=>grow own t w.heap.size w'.heap.size j=t) w':=
 hR.out h (fun j hj hs=>by
  by_cases hl:w.heap.size<=j
  .exact ZC hl hj
  .rw [zx (by omega)];exact hs.resolve_right hl)
theorem Thing.open(hR:Thing R)(h:R (fun j=>own j=t) w):R (fun j=>own j=t\/w.heap.size<=j) w:=hR.out h (fun _ _ hs=> .inl hs)
theorem Thing.new(hR:Thing R){S:Nat->Prop}(h:R S w)(hu:Upd (fun _=>False) w w'):R S w':=hR.keep h hu (fun _ _ h=>h)
end
def Sl(w:World)(e:TypeId)(k:Nat)(v:Value)(n:Nat)(xs:List Value):Prop:=
 xs.length=n*k/\((v=.slice none 0 0/\n=0)\/
  ∃g off cap cur,v=.slice (some ⟨g,off,none⟩) n cap/\w.heap[g]?=some (.cells cur e (0,0))/\n<=cap/\cap<=maxLen/\off+cap*k<=cur.size/\
   ∀j u,xs[j]?=some u->cur[off+j]?=some u)
def Rd(w:World)(k:Nat)(v:Value)(n:Nat)(xs:List Value):Prop:=
 xs.length=n*k/\n<=maxLen/\∃ao cap,v=.slice ao n cap/\(ao=none->n=0)/\∀b,ao=some b->∀j u,xs[j]?=some u->w.cell? (b.add j)=some u
section
variable{w w':World}{e:TypeId}{k n:Nat}{v:Value}{xs:List Value}
theorem Sl.nil(w:World)(e:TypeId)(k:Nat):Sl w e k (.slice none 0 0) 0 []:=⟨by simp,.inl ⟨rfl,rfl⟩⟩
theorem Sl.rd(h:Sl w e k v n xs):Rd w k v n xs:=by
 obtain⟨hl,⟨rfl,rfl⟩|⟨g,off,cap,cur,rfl,hg,hn,hm,hs,hc⟩⟩:=h
 .exact ⟨hl,qYf _,none,0,rfl,fun _=>rfl,fun b hb=>by cases hb⟩
 .refine ⟨hl,qXx hn hm,some ⟨g,off,none⟩,cap,rfl,(fun h=>by cases h),(fun b hb=>?_)⟩;cases hb;intro j u hu;rw[qxa,za hg];exact hc j u hu
theorem Sl.len(h:Sl w e k v n xs):xs.length=n*k:=h.1
theorem Rd.le(h:Rd w k v n xs):n<=maxLen:=h.2.1
theorem Sl.le(h:Sl w e k v n xs):n<=maxLen:=h.rd.le
theorem Sl.lt(h:Sl w e k v n xs){g:Nat}(hg:v.ownBlock=some g):g<w.heap.size:=by
 obtain⟨_,⟨rfl,rfl⟩|⟨g',off,cap,cur,rfl,hg',_⟩⟩:=h
 .simp [Value.ownBlock]at hg
 .simp [Value.ownBlock]at hg;subst hg;exact zd hg'
theorem Sl.keep(h:Sl w e k v n xs){S:Nat->Prop}(hu:Upd S w w')(hs:∀g,v.ownBlock=some g->¬S g):Sl w' e k v n xs:=by
 refine⟨h.1,?_⟩;rcases h.2 with hn|⟨g,off,cap,cur,rfl,hg,rest⟩
 .exact .inl hn
 .exact .inr ⟨g,off,cap,cur,rfl,(hu.block g (zd hg) (hs g rfl)).trans hg,rest⟩
theorem zL{w:World}{a:Addr}{u:Value}(h:w.cell? a=some u):a.spot=none/\a.block<w.heap.size:=by
 refine⟨?_,qYn w a h⟩;unfold World.cell? at h;split at h
 .split at h
  .cases h
  .rename_i hs;simpa using hs
 .cases h
theorem Rd.keep(h:Rd w k v n xs){S:Nat->Prop}(hu:Upd S w w')(hs:∀g,v.ownBlock=some g->¬S g):Rd w' k v n xs:=by
 obtain⟨hl,hm,ao,cap,rfl,h0,hc⟩:=h;refine⟨hl,hm,ao,cap,rfl,h0,fun b hb j u hj=>?_⟩;have h1:=hc b hb j u hj;have hblk:(b.add j).block=b.block:=by unfold Addr.add;split<;>rfl
 subst hb;rw[hu.cell (zL h1).2 (by rw[hblk];exact hs b.block rfl)];exact h1
theorem Rd.nil_iff(h:Rd w k v n xs):∃ao cap,v=.slice ao n cap:=by obtain⟨_,_,ao,cap,rfl,_⟩:=h;exact⟨ao,cap,rfl⟩
theorem Rd.at(h:Rd w k v n xs)(hn:0<n)(hk:0<k:=by decide):∃bl off cap,v=.slice (some ⟨bl,off,none⟩) n cap/\bl<w.heap.size/\∀j u,xs[j]?=some u->w.cell? ⟨bl,off+j,none⟩=some u:=by
 obtain⟨hl,hm,ao,cap,rfl,h0,hc⟩:=h;cases ao with
 |none=>have:=h0 rfl;omega
 |some b=>
  have hc:=hc b rfl;have hx:0<xs.length:=by rw[hl];exact Nat.mul_pos hn hk
  obtain⟨hs,hb⟩:=zL (hc 0 _ (qyn hx));obtain⟨bl,off,sp⟩:=b;have hsp:sp=none:=by unfold Addr.add at hs;split at hs<;>simp_all
  subst hsp;rw[qxa]at hb;exact⟨bl,off,cap,rfl,hb,fun j u hj=>by have:=hc j u hj;rwa[qxa]at this⟩
theorem Sl.at(h:Sl w e k v n xs)(hn:0<n):∃g off cap cur,v=.slice (some ⟨g,off,none⟩) n cap/\w.heap[g]?=some (.cells cur e (0,0))/\off+n*k<=cur.size/\∀j u,xs[j]?=some u->cur[off+j]?=some u:=by
 obtain⟨hl,⟨rfl,rfl⟩|⟨g,off,cap,cur,rfl,hg,hnc,hm,hs,hc⟩⟩:=h
 .omega
 .exact ⟨g,off,cap,cur,rfl,hg,by have:=qYb k hnc;omega,hc⟩
theorem zG:∀(vs:List Value) (o:Nat) (w:World) (b:Nat) (cur:Array Value) (T:TypeId) (fz:Nat×Nat),w.heap[b]?=some (.cells cur T fz)->
  ∃cur',(w.setCells b o vs).heap[b]?=some (.cells cur' T fz)/\cur'.size=cur.size/\∀i,cur'[i]?=if o<=i/\i<o+vs.length/\i<cur.size then vs[i-o]? else cur[i]?:=by
 intro vs
 induction vs with
 |nil=>intro o w b cur T fz h;exact⟨cur,h,rfl,fun i=>by rw[if_neg (by simp;omega)]⟩
 |cons v vs ih=>
  intro o w b cur T fz h;have h1:=zh h o v;obtain⟨cur',h2,h3,h4⟩:=ih (o+1) (w.setCell ⟨b,o,none⟩ v) b _ T fz h1;refine⟨cur',h2,by simpa using h3,fun i=>?_⟩;rw[h4];by_cases hi:o=i
  .subst hi;rw[if_neg (by omega)];by_cases hs:o<cur.size
   .rw [if_pos ⟨by omega,by simp,hs⟩];simp[hs]
   .rw [if_neg (by omega)];simp[hs]
  .by_cases hr:o+1<=i/\i<o+1+vs.length/\i<cur.size
   .rw [if_pos (by simpa using hr),if_pos ⟨by omega,by simp;omega,hr.2.2⟩];have:i-o=(i-(o+1))+1:=by omega
    rw[this,qyk]
   .rw [if_neg (by simpa using hr),if_neg (by simp at hr⊢;omega)];rw[qxg hi]
theorem yv(S:Nat->Prop)(w:World)(b o:Nat)(vs:List Value)(hS:S b):Upd S w (w.setCells b o vs):=by
 have:∀(vs:List Value) (o:Nat) (a w:World),Upd S a w->Upd S a (w.setCells b o vs):=by
  intro vs
  induction vs with
  |nil=>intro o a w h;exact h
  |cons v vs ih=>intro o a w h;exact ih _ _ _ (h.setCell ⟨b,o,none⟩ (fun _=>hS) v)
 exact this vs o w w (Upd.refl _ _)
theorem Upd.of_grown{S:Nat->Prop}{w w':World}{row:Option Nat}(h:w.grownBy w' row)(hS:∀g,row=some g->g<w.heap.size->S g):Upd S w w':=
 ⟨h.os,h.tape,h.output,h.size,fun j hj hn=>h.block j hj (fun e=>hn (hS j e.symm hj))⟩
theorem Sl.of_own{base:Nat}(h:w.ownsRow base e k v n xs):Sl w e k v n xs:=by
 refine⟨h.1,?_⟩;rcases h.2 with hn|⟨g,cap,cur,rfl,hb,hg,hnc,hcm,hcs,ht⟩
 .exact .inl hn
 .refine .inr ⟨g,0,cap,cur,rfl,hg,hnc,hcm,by omega,fun j u hu=>?_⟩;rw[<-ht,qyu]at hu;split at hu
  .simpa using hu
  .cases hu
def ownS(v:Value):Nat->Prop:=fun g=>v.ownBlock=some g
def From(B:Nat)(v:Value):Prop:=∀g,v.ownBlock=some g->B<=g
theorem From.nil(B n c:Nat):From B (.slice none n c):=fun g h=>by cases h
theorem From.mono{B B':Nat}{v:Value}(h:From B v)(hb:B'<=B):From B' v:=fun g hg=>qXx hb (h g hg)
theorem From.own{B:Nat}{v:Value}(h:From B v):∀k,ownS v k->B<=k:=h
def blockFrom(w:World)(v v':Value):Prop:=v'.ownBlock=v.ownBlock\/∃g,v'.ownBlock=some g/\w.heap.size<=g
theorem zK{P:Program}{ops:Array Oper}{rest:List Oper}{o:Oper}{a:Act}{Q:Exit->Act->World->Prop}(hgd:o.guard=none)(s x:Operand)(t:TypeId)
  (ho:o.op=.call {callee:=.builtin .append,args:= #[s,x],argTypes:= #[t,t]})
  (i:TypeInfo) (z:Value) (bytes:Nat) (ht:P.underlying t=some (.slice e)) (hi:P.info? e=some i) (hz:i.zero=some z)
  (hsize:i.size=k) (hby:i.bytes=bytes) (hzs:z.cells.size=k) (hsz:0<k)
  (hs:a.eval s=v) (hown:Sl w e k v n xs)
  (x':Value) (m:Nat) (news:List Value) (hx:a.eval x=x') (hr:Rd w k x' m news) (h1:∀u∈news,u.oneCell'=true)
  (h63:n+m<=maxLen) (hbytes:(n+m)*bytes<=140737488355328)
  (h:∀v' w',Sl w' e k v' (n+m) (xs++news)->Upd (ownS v) w w'->blockFrom w v v'->wpList P ops Q rest (a.put o.dst v') w'):wpList P ops Q (o::rest) a w:=by
 obtain⟨hnl,hml,ao,xc,rfl,hx0,hxc⟩:=hr;cases ao with
 |none=>
  have hm0:=hx0 rfl;subst hm0;obtain rfl:news=[]:=qyd (by simpa using hnl);have hrun:(Builtin.append_ #[t,t] o.type #[v,.slice none 0 xc]).run P w=.ok v w:=by
   obtain⟨_,⟨rfl,rfl⟩|⟨g,off,cap,cur,rfl,hg,hnc,hcm,hcs,hcell⟩⟩:=hown
   .simp [Builtin.append_,run_underlying ht,sizeOf,typeInfo,hi,Builtin.lenOf,Builtin.firstCells]
   .simp [Builtin.append_,run_underlying ht,sizeOf,typeInfo,hi,Builtin.lenOf,Builtin.firstCells,hnc,storeCells]
  refine qZh hgd fun K hK'=>?_;unfold Oper.wp;simp[execOp,ho,resolve,invoke,builtin,hs,hx,hrun,Result.andThen];exact hK' _ _ (h v w (by simpa using hown) (Upd.refl _ _) (.inl rfl))
 |some ad=>
 have hac':=hxc ad rfl;have hown':=hown;obtain⟨hl,⟨rfl,rfl⟩|⟨g,off,cap,cur,rfl,hg,hnc,hcm,hcs,hcell⟩⟩:=hown
 .obtain rfl:xs=[]:=qyd (by simpa using hl);by_cases hm0:m=0
  .subst hm0;obtain rfl:news=[]:=qyd (by simpa using hnl);have hrun:(Builtin.append_ #[t,t] o.type #[.slice none 0 0,.slice (some ad) 0 xc]).run P w=.ok (.slice none 0 0) w:=by
    simp[Builtin.append_,run_underlying ht,sizeOf,typeInfo,hi,Builtin.lenOf,Builtin.firstCells,loadCells,loadCellsFrom]
   refine qZh hgd fun K hK'=>?_;unfold Oper.wp;simp[execOp,ho,resolve,invoke,builtin,hs,hx,hrun,Result.andThen];exact hK' _ _ (h _ w (by simpa using hown') (Upd.refl _ _) (.inl rfl))
  .refine wpList_append_grows w hgd s x t ho e i z k bytes ht hi hz hsize hby hzs hsz none 0 0 [] hs (fun _=>⟨rfl,rfl⟩) (by simp) (fun b hb=>by cases hb) ad m xc news hx hnl hac' h1 (by omega) h63 hbytes ?_;intro v' w' ho' hg';refine h v' w' (Sl.of_own ho') (Upd.of_grown hg' (fun g hg _=>by cases hg)) ?_;rcases ho'.2 with⟨rfl,h0⟩|⟨g',cap',cur',rfl,hb',_⟩
   .omega
   .exact .inr ⟨g',rfl,hb'⟩
 .refine wpList_append_arg w hgd s x t ho e i z k bytes ht hi hz hsize hby hzs hsz g off n cap xs hs hl (fun j u hj=>by rw[za hg];exact hcell j u hj) ad m xc news hx hnl hac' h1 ?_ h63 hbytes ?_ ?_
  .intro hroom j hj;have hj':off+n*k+j<cur.size:=by
    have:=qYb k hroom;rw[Nat.add_mul]at this;omega
   exact⟨by rw[za hg];simp[hj'],zf hg _⟩
  .intro hroom;obtain⟨cur',h2,h3,h4⟩:=zG news (off+n*k) w g cur e (0,0) hg;have hm:=qYb k hroom;rw[Nat.add_mul]at hm;refine h _ _ ⟨by rw[qzd,hl,hnl,Nat.add_mul],.inr ⟨g,off,cap,cur',rfl,h2,hroom,hcm,by omega,fun j u hj=>?_⟩⟩ (yv _ w g _ news rfl) (.inl rfl);rw[h4];by_cases hj1:j<xs.length
   .rw [qyi hj1]at hj;rw[if_neg (by omega)];exact hcell j u hj
   .rw [qyj (by omega)]at hj;have hlt:=(qyp.1 hj).1;rw[if_pos ⟨by omega,by omega,by omega⟩];have:off+j-(off+n*k)=j-xs.length:=by omega
    rw[this];exact hj
  .intro hfull v' w' ho' hg';refine h v' w' (Sl.of_own ho') (Upd.of_grown hg' (fun g hg _=>by cases hg)) ?_;rcases ho'.2 with⟨rfl,h0⟩|⟨g',cap',cur',rfl,hb',_⟩
   .omega
   .exact .inr ⟨g',rfl,hb'⟩
theorem Rd.fresh(w:World)(news:List Value)(e:TypeId){k m:Nat}(c:Nat)(hl:news.length=m*k)(hm:m<=maxLen):Rd (w.alloc (.cells news.toArray e)) k (.slice (some ⟨w.heap.size,0,none⟩) m c) m news:=by
 refine⟨hl,hm,some ⟨w.heap.size,0,none⟩,c,rfl,(fun h=>by cases h),(fun b hb=>?_)⟩;cases hb;intro j u hj;rw[qxa,za (zc _ _ rfl)];simpa using hj
theorem blockFrom.ge{w:World}{v v':Value}(h:blockFrom w v v'){B:Nat}(hB:B<=w.heap.size)(hv:From B v):From B v':=by
 intro g hg;rcases h with h|⟨g',h,hle⟩
 .exact hv g (by rw[<-h];exact hg)
 .rw [h]at hg;cases hg;omega
theorem zP{P:Program}{ops:Array Oper}{rest:List Oper}{o:Oper}{a:Act}{Q:Exit->Act->World->Prop}(hgd:o.guard=none)(s x:Operand)(t:TypeId)
  (ho:o.op=.call {callee:=.builtin .append,args:= #[s,x],argTypes:= #[t,t]})
  (i:TypeInfo) (z:Value) (bytes:Nat) (ht:P.underlying t=some (.slice e)) (hi:P.info? e=some i) (hz:i.zero=some z)
  (hsize:i.size=k) (hby:i.bytes=bytes) (hzs:z.cells.size=k) (hsz:0<k)
  (hs:a.eval s=v) (hown:Sl w e k v n xs) (news:List Value) (hx:a.eval x=.slice (some ⟨w.heap.size,0,none⟩) 1 1) (hl:news.length=k) (h1:∀u∈news,u.oneCell'=true)
  (h63:n+1<=maxLen) (hbytes:(n+1)*bytes<=140737488355328)
  (h:∀v' w',Sl w' e k v' (n+1) (xs++news)->Upd (ownS v) w w'->blockFrom w v v'->wpList P ops Q rest (a.put o.dst v') w'):
  wpList P ops Q (o::rest) a (w.alloc (.cells news.toArray e)):=by
 refine zK hgd s x t ho i z bytes ht hi hz hsize hby hzs hsz hs (hown.keep ((Upd.refl (fun _=>False) w).alloc _) (fun _ _ h=>h)) _ 1 news hx (Rd.fresh w news e 1 (by omega) (by unfold maxLen;omega)) h1 h63 hbytes ?_;intro v' w' h2 h3 h4;refine h v' w' h2 (Upd.new ((Upd.refl _ _).alloc _) h3 (fun i _ h=>h)) ?_;rcases h4 with h4|⟨g,h4,h5⟩
 .exact .inl h4
 .exact .inr ⟨g,h4,by simp at h5;omega⟩
theorem Rd.below{w w':World}{k n:Nat}{v:Value}{xs:List Value}(h:Rd w k v n xs)(hb:Below w.heap.size w w'):Rd w' k v n xs:=h.keep (Upd.of_below (S:=fun _=>False) hb) (fun _ _ h=>h)
theorem zj{B:Nat}{a w w':World}{S:Nat->Prop}(h:Below B a w)(hu:Upd S w w')(hB:B<=a.heap.size)(hs:∀k,S k->B<=k):Below B a w':=
 ⟨hu.os.trans h.os,hu.tape.trans h.tape,hu.output.trans h.output,qXx h.size hu.size,fun k hk=>(hu.block k (by have:=h.size;omega) (fun hS=>by have:=hs k hS;omega)).trans (h.block k hk)⟩
theorem zS{B:Nat}{a w:World}(h:Below B a w)(n:Nat):Below B a (w.drewN n):=⟨h.os,h.tape,h.output,h.size,h.block⟩
def Dis(v u:Value):Prop:=∀g,v.ownBlock=some g->u.ownBlock=some g->False
theorem Dis.symm{v u:Value}(h:Dis v u):Dis u v:=fun g h1 h2=>h g h2 h1
theorem Dis.nil(n c:Nat)(u:Value):Dis (.slice none n c) u:=fun g h=>by cases h
theorem Dis.from{w:World}{v v' u:Value}(h:Dis v u)(hb:blockFrom w v v')(hu:∀g,u.ownBlock=some g->g<w.heap.size):Dis v' u:=by
 intro g h1 h2;rcases hb with hb|⟨g',hb,hle⟩
 .exact h g (by rw[<-hb];exact h1) h2
 .rw [hb]at h1;cases h1;have:=hu g h2;omega
theorem Sl.keep_dis{w w':World}{e:TypeId}{k n:Nat}{v u:Value}{xs:List Value}(h:Sl w e k v n xs)(hd:Dis v u)(hu:Upd (ownS u) w w'):Sl w' e k v n xs:=
 h.keep hu (fun g hg hs=>hd g hg hs)
theorem Sl.tail{w:World}{e:TypeId}{g off n cap:Nat}{x:Value}{xs:List Value}(h:Sl w e 1 (.slice (some ⟨g,off,none⟩) (n+1) cap) (n+1) (x::xs)):
  Sl w e 1 (.slice (some ⟨g,off+1,none⟩) n (cap-1)) n xs/\(cap=1->Sl w e 1 (.slice (some ⟨g,off,none⟩) n 0) n xs)/\1<=cap:=by
 obtain⟨hl,⟨h1,_⟩|⟨g',off',cap',cur,h1,hg,hn,hm,hs,hc⟩⟩:=h
 .cases h1
 .cases h1;simp at hl;refine⟨⟨by omega,.inr ⟨g,off+1,cap-1,cur,rfl,hg,by omega,by omega,by omega,fun j u hj=>?_⟩⟩,fun hcap=>⟨by omega,.inr ⟨g,off,0,cur,rfl,hg,by omega,by omega,by omega,fun j u hj=>?_⟩⟩,by omega⟩
  .have:=hc (j+1) u (by simpa using hj);rw[<-this];congr 1;omega
  .have:=(qyp.1 hj).1;omega
theorem Sl.keep_ne{w w':World}{e:TypeId}{k n:Nat}{v:Value}{xs:List Value}(h:Sl w e k v n xs){b:Nat}(hu:Upd (fun j=>j=b) w w')(hne:v.ownBlock≠some b):Sl w' e k v n xs:=
 h.keep hu (fun g hg hs=>hne (by rw[hg,hs]))
theorem zi(w:World)(b i:Nat)(u:Value):Upd (fun j=>j=b) w (w.setCell ⟨b,i,none⟩ u):=Upd.setCell (S:=fun j=>j=b) (Upd.refl _ w) ⟨b,i,none⟩ (fun _=>rfl) u
end
def ints(l:List Int):List Value:=l.map (.int .i64)
@[simp]theorem Am:ints []=[]:=rfl
@[simp]theorem Ak (x:Int)(l:List Int):ints (x::l)=.int .i64 x::ints l:=rfl
@[simp]theorem ZD (l m:List Int):ints (l++m)=ints l++ints m:=by simp[ints]
@[simp]theorem yq (l:List Int):(ints l).length=l.length:=by simp[ints]
theorem yp{l:List Int}{j:Nat}(h:j<l.length):(ints l)[j]?=some (.int .i64 l[j]):=by simp[ints,h]
abbrev Bk:=List UInt8
def bkC(x:Bk):List Value:=x.map Go.Extern.Stop.cell
def bkV(x:Bk):Value:=.agg (bkC x).toArray
def yN(F:List Bk):List Value:=F.flatMap bkC
theorem zo(x:Bk):(bkC x).length=x.length:=by simp[bkC]
theorem zv(x:Bk):∀v∈bkC x,v.oneCell'=true:=by intro v hv;simp only[bkC,qzv]at hv;obtain⟨b,_,rfl⟩:=hv;rfl
def All64(F:List Bk):Prop:=∀x∈F,x.length=64
theorem vD{F:List Bk}(h:All64 F):(yN F).length=F.length*64:=by
 induction F with
 |nil=>rfl
 |cons x F ih=>
  have h1:=h x (by simp);have h2:=ih (fun y hy=>h y (by simp[hy]));simp only[yN,qyg,qzd,zo]at h2⊢;rw[h1,qze];omega
theorem vE{F:List Bk}(h:All64 F){i:Nat}(hi:i<F.length){j:Nat}(hj:j<64):(yN F)[i*64+j]?=(bkC F[i])[j]?:=by
 induction F generalizing i with
 |nil=>simp at hi
 |cons x F ih=>
  have h1:=h x (by simp);cases i with
  |zero=>
   simp only[yN,qyg,qYg,qYe,qyx];rw[qyi (by rw[zo,h1];exact hj)]
  |succ i=>
   simp only[yN,qyg,qyw];rw[qyj (by rw[zo,h1];omega),zo,h1];have:=ih (fun y hy=>h y (by simp[hy])) (i:=i) (by simpa using hi);rw[<-this]
   congr 1
   omega
theorem All64.set{F:List Bk}(h:All64 F)(i:Nat){x:Bk}(hx:x.length=64):All64 (F.set i x):=by
 intro y hy;rcases List.mem_or_eq_of_mem_set hy with h1|rfl
 .exact h y h1
 .exact hx
theorem rm{w:World}{g off:Nat}{cur:Array Value}{e:TypeId}{F:List Bk}(hF:All64 F)(hg:w.heap[g]?=some (.cells cur e (0,0)))(hc:∀j u,(yN F)[j]?=some u->cur[off+j]?=some u){i:Nat}(hi:i<F.length):
  w.rangeAt g (off+i*64) (bkC F[i]):=by
 intro j v hj;have hj':=(qyp.1 hj).1;rw[zo,hF _ (qyz hi)]at hj';rw[za hg,qXr];exact hc _ _ (by rw[vE hF hi hj'];exact hj)
theorem Vd{w:World}{g off n:Nat}{cur:Array Value}{e:TypeId}(hg:w.heap[g]?=some (.cells cur e (0,0))){i:Nat}(hi:i<n)(hz:off+n*64<=cur.size):w.there g (off+i*64) 64:=by
 intro j hj;rw[za hg,zf hg];exact⟨by rw[qxe (by omega)];rfl,rfl⟩
theorem Sl.row_set{w:World}{e:TypeId}{g off cap:Nat}{F:List Bk}(hF:All64 F)(h:Sl w e 64 (.slice (some ⟨g,off,none⟩) F.length cap) F.length (yN F)){i:Nat}(_:i<F.length){x:Bk}(hx:x.length=64):
  Sl (w.setCells g (off+i*64) (bkC x)) e 64 (.slice (some ⟨g,off,none⟩) (F.set i x).length cap) (F.set i x).length (yN (F.set i x)):=by
 obtain⟨hl,⟨h1,_⟩|⟨g',off',cap',cur,h1,hg,hn,hm,hs,hc⟩⟩:=h
 .cases h1
 cases h1;obtain⟨cur',hb,hz,hget⟩:=zG (bkC x) (off+i*64) w g cur e (0,0) hg;refine⟨vD (hF.set i hx),.inr ⟨g,off,cap,cur',rfl,hb,by simpa using hn,hm,by omega,fun j u hj=>?_⟩⟩;have hj':=(qyp.1 hj).1;rw[vD (hF.set i hx),qzj]at hj';have hdm:j=j/64*64+j%64:=by omega
 have hjm:j%64<64:=qYa _ (by omega);have hjd:j/64<F.length:=by omega
 rw[hdm,vE (hF.set i hx) (by rw[qzj];exact hjd) hjm,qzb]at hj;rw[hget,zo,hx];by_cases hij:i=j/64
 .rw [if_pos hij]at hj;rw[if_pos ⟨by omega,by omega,by omega⟩,show off+j-(off+i*64)=j%64 by omega];exact hj
 .rw [if_neg hij]at hj;rw[if_neg (by omega)];refine hc j u ?_;rw[hdm,vE hF hjd hjm];exact hj
theorem zp(w:World)(g o:Nat)(vs:List Value):Upd (fun j=>j=g) w (w.setCells g o vs):=yv _ w g o vs rfl
theorem Ve(w:World)(cs:Array Value)(t:TypeId)(i:Nat)(v:Value):(w.alloc (.cells cs t)).setCell ⟨w.heap.size,i,none⟩ v=w.alloc (.cells (cs.setIfInBounds i v) t):=by
 simp only[World.setCell,World.alloc,World.mk.injEq,and_true];apply qxd
 intro k;rw[Array.getElem?_modify];by_cases hk:w.heap.size=k
 .subst hk;simp
 .rw [if_neg hk];by_cases hl:k<w.heap.size
  .rw [Array.getElem?_push_lt hl,Array.getElem?_push_lt hl]
  .rw [qxf (by simp;omega),qxf (by simp;omega)]
theorem wv(w:World)(t:TypeId):∀(vs:List Value) (cs:Array Value) (o:Nat),∃cs':Array Value,(w.alloc (.cells cs t)).setCells w.heap.size o vs=w.alloc (.cells cs' t)/\cs'.size=cs.size/\∀k,cs'[k]?=if o<=k/\k<o+vs.length/\k<cs.size then vs[k-o]? else cs[k]?
 |[],cs,o=>⟨cs,rfl,rfl,fun k=>by rw[if_neg (by simp;omega)]⟩
 |v::vs,cs,o=>by
  obtain⟨cs',h1,h2,h3⟩:=wv w t vs (cs.setIfInBounds o v) (o+1);refine⟨cs',?_,by simpa using h2,fun k=>?_⟩
  .rw [World.setCells,Ve];exact h1
  .rw [h3 k];by_cases hk:o=k
   .subst hk;rw[if_neg (by omega)];by_cases hs:o<cs.size
    .rw [if_pos ⟨by omega,by simp,hs⟩];simp[hs]
    .rw [if_neg (by omega)];simp[hs]
   .by_cases hr:o+1<=k/\k<o+1+vs.length/\k<cs.size
    .rw [if_pos (by simpa using hr),if_pos ⟨by omega,by simp;omega,hr.2.2⟩];have:k-o=(k-(o+1))+1:=by omega
     rw[this,qyk]
    .rw [if_neg (by simpa using hr),if_neg (by simp at hr⊢;omega),qxg hk]
theorem uS(w:World)(t:TypeId)(vs:List Value)(cs:Array Value)(h:cs.size=vs.length):(w.alloc (.cells cs t)).setCells w.heap.size 0 vs=w.alloc (.cells vs.toArray t):=by
 obtain⟨cs',h1,h2,h3⟩:=wv w t vs cs 0;rw[h1];have:cs'=vs.toArray:=by
  apply qxd
  intro k;have e:vs.toArray[k]?=vs[k]?:=by simp
  rw[h3 k,e];by_cases hk:k<vs.length
  .rw [if_pos ⟨by omega,by omega,by omega⟩];rfl
  .rw [if_neg (by omega),qxf (by omega),qyo (by omega)]
 rw[this]
theorem zk{P:Program}{ops:Array Oper}{rest:List Oper}{op:Oper}{a:Act}{w:World}{Q:Exit->Act->World->Prop}(hgd:op.guard=none)(ty:TypeId)(x y:Operand)(ho:op.op=.store ty x y)
  (zs:Array Value) (t:TypeId) (vs:List Value) (hx:a.eval x=.pointer (some ⟨w.heap.size,0,none⟩)) (hy:a.eval y=.agg vs.toArray) (hz:zs.size=vs.length)
  (hi:(P.info? ty).map (·.size)=some vs.length) (h1:∀v∈vs,v.oneCell'=true)
  (h:wpList P ops Q rest (a.put op.dst undef) (w.alloc (.cells vs.toArray t))):wpList P ops Q (op::rest) a (w.alloc (.cells zs t)):=by
 refine qZi hgd ty x y ho w.heap.size 0 vs.toArray hx hy (fun j hj=>?_) (by simpa using hi) (qYu h1) ?_
 .rw [za (zc w _ rfl),zf (zc w _ rfl)];simp at hj;exact⟨by rw[qYe,qxe (by omega)];rfl,rfl⟩
 .rw [List.toList_toArray,uS w t vs zs hz];exact h
theorem zn{P:Program}{fn:Func}{p u:Tmp}{ty:TypeId}(h:fn.results= #[.cell p ty,.tmp u])(tmps:Array Value)(w:World)(b o:Nat)(cs:List Value)(d:TypeDesc)
  (hp:tmps.getD p undef=.pointer (some ⟨b,o,none⟩)) (hc:w.rangeAt b o cs) (hu:P.underlying ty=some d) (hd:d.isRow=true) (hi:(P.info? ty).map (·.size)=some cs.length):
  (results fn tmps).run P w=.ok (.tuple #[.agg cs.toArray,tmps.getD u undef]) w:=by
 have hp':tmps[p]?.getD undef=.pointer (some ⟨b,o,none⟩):=by simpa using hp
 rw[results_cell_tmp h];simp[hp',asAddr,run_loadVar_mid w b o ty cs d hc hu hd hi,Result.andThen]
theorem zM{P:Program}{fn:Func}{p:Tmp}{ty:TypeId}(h:fn.results= #[.cell p ty])(tmps:Array Value)(w:World)(b o:Nat)(cs:List Value)(d:TypeDesc)
  (hp:tmps.getD p undef=.pointer (some ⟨b,o,none⟩)) (hc:w.rangeAt b o cs) (hu:P.underlying ty=some d) (hd:d.isRow=true) (hi:(P.info? ty).map (·.size)=some cs.length):
  (results fn tmps).run P w=.ok (.agg cs.toArray) w:=by
 have hp':tmps[p]?.getD undef=.pointer (some ⟨b,o,none⟩):=by simpa using hp
 simp[results,h,hp',asAddr,run_loadVar_mid w b o ty cs d hc hu hd hi]
theorem zg{w:World}{g:Nat}{cs:List Value}{t:TypeId}{fz:Nat×Nat}(h:w.heap[g]?=some (.cells cs.toArray t fz)):w.rangeAt g 0 cs:=fun j v hv=>by
 rw[za h,qYe];simpa using hv
theorem qqu{w w1:World}{o:Obj}(h:w1=w.alloc o):Upd (fun _=>False) w w1:=by rw[h];exact (Upd.refl _ w).alloc _
theorem qqb{w w1:World}(h:Below w.heap.size w w1):Upd (fun _=>False) w w1:=Upd.of_below h
theorem uur:type_of% @Upd.refl:=@Upd.refl
theorem uuo:type_of% @Upd.of_below:=@Upd.of_below
end Go.Proofs.YtfhfbpmlnjdfoaaGreatDoor
