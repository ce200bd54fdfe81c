/- Things in memo -/
import Derived.Test.YtpejdgiccaijfaaGreatDoorG01
set_option maxRecDepth 100000
namespace Go.Proofs.YtpejdgiccaijfaaGreatDoor
open Go Go.RowKit Tryz
structure Thing(R:(Nat->Prop)->World->Prop):Prop where
 keep:∀{S T:Nat->Prop} {w w':World},R S w->Upd T w w'->(∀j,S j->¬T j)->R S w'
 out:∀{S S':Nat->Prop} {w:World},R S w->(∀j,j<w.heap.size->S j->S' j)->R S' w
def grow(own:Nat->Nat)(t n n':Nat):Nat->Nat:=fun j=>if n<=j/\j<n' then t else own j
theorem zw{own:Nat->Nat}{t n n' j:Nat}(h:j<n):grow own t n n' j=own j:=if_neg oM
theorem YA{own:Nat->Nat}{t n n' j:Nat}(h:n<=j)(h':j<n'):grow own t n n' j=t:=if_pos ⟨h,h'⟩
structure Did(own own':Nat->Nat)(w w':World):Prop where
 upd:Upd (fun j=>own j≠0/\own j<16) w w'
 old:∀j,j<w.heap.size->own' j=own j
 new:∀j,w.heap.size<=j->own' j<16
 far:∀j,w'.heap.size<=j->own' j=0
section
variable{own own' own2:Nat->Nat}{w w' w2:World}{R:(Nat->Prop)->World->Prop}{t k:Nat}
theorem Did.refl(h:∀j,w.heap.size<=j->own j=0):Did own own w w:=⟨uur _ _,fun _ _=>rfl,fun j hj=>by rw[h j hj];decide,h⟩
theorem Did.trans(h:Did own own' w w')(g:Did own' own2 w' w2):Did own own2 w w2 where
 upd:=h.upd.new g.upd (fun j hj hs=>by rw[<-h.old j hj];exact hs)
 old:=fun j hj=>(g.old j (qXr hj h.upd.size)).trans (h.old j hj)
 new:=fun j hj=>by
  by_cases hl:j<w'.heap.size
  .rw [g.old j hl];exact h.new j hj
  .exact g.new j oM
 far:=g.far
theorem Did.drew(h:Did own own' w w'):Did own own' w w'.drew:=⟨h.upd.drew,h.old,h.new,h.far⟩
theorem Did.setCell(h:Did own own' w w')(p:Addr)(hp:p.block<w.heap.size->own p.block≠0/\own p.block<16)(u:Value):Did own own' w (w'.setCell p u):=
 ⟨h.upd.setCell p hp u,h.old,h.new,fun j hj=>h.far j oz⟩
theorem Did.step(hf:∀j,w.heap.size<=j->own j=0)(ht:t≠0)(h16:t<16)(hu:Upd (fun j=>own j=t\/w.heap.size<=j) w w'):Did own (grow own t w.heap.size w'.heap.size) w w' where
 upd:=hu.mono (fun j hj hs=>by rcases hs with hs|hs;exact hs▸⟨ht,h16⟩;omega)
 old:=fun j hj=>zw hj
 new:=fun j hj=>by
  unfold grow;split
  .exact h16
  .rw [hf j hj];decide
 far:=fun j hj=>by
  have:=hu.size;unfold grow;rw[if_neg oM];exact hf j oM
theorem Thing.other(hR:Thing R)(h:R (fun j=>own j=k) w)(hk:k≠t)(hu:Upd (fun j=>own j=t\/w.heap.size<=j) w w'):R (fun j=>grow own t w.heap.size w'.heap.size j=k) w':=by
 have h1:R (fun j=>own j=k/\j<w.heap.size) w:=hR.out h (fun j hj hs=>⟨hs,hj⟩);have h2:=hR.keep h1 hu (fun j hs ht=>by rcases ht with ht|ht;exact hk (hs.1.symm.trans ht);omega);exact hR.out h2 (fun j hj hs=>by rw[zw hs.2];exact hs.1)
theorem Thing.mine(hR:Thing R)(_hu:w.heap.size<=w'.heap.size)(h:R (fun j=>own j=t\/w.heap.size<=j) w'):R (fun j=>grow own t w.heap.size w'.heap.size j=t) w':=
 hR.out h (fun j hj hs=>by
  by_cases hl:w.heap.size<=j
  .exact YA hl hj
  .rw [zw oM];exact hs.resolve_right hl)
theorem Thing.open(hR:Thing R)(h:R (fun j=>own j=t) w):R (fun j=>own j=t\/w.heap.size<=j) w:=hR.out h (fun _ _ hs=> .inl hs)
theorem Thing.new(hR:Thing R){S:Nat->Prop}(h:R S w)(hu:Upd (fun _=>False) w w'):R S w':=hR.keep h hu (fun _ _ h=>h)
end
def xP(f:Int->Option Nat)(s:Int)(o:Option Nat):Int->Option Nat:=fun x=>if x=s then o else f x
def atOf(ps:List (Int×Bool))(s:Int):Option Nat:=if s<0 then none else ps.findIdx? (fun p=>p.1==s)
structure Good(ps:List (Int×Bool))(slots:Nat):Prop where
 each:∀k (h:k<ps.length),ps[k]=(-1,false)\/(0<=ps[k].1/\ps[k].1<slots)
 inj:∀i j (hi:i<ps.length) (hj:j<ps.length),0<=ps[i].1->ps[i].1=ps[j].1->i=j
theorem yO{ps:List (Int×Bool)}{s:Int}{k:Nat}(h:atOf ps s=some k):0<=s/\∃h:k<ps.length,ps[k].1=s:=by
 unfold atOf at h;split at h
 .cases h
 .rw [List.findIdx?_eq_some_iff_getElem]at h;obtain⟨hk,h1,_⟩:=h;exact⟨oM,hk,by simpa using h1⟩
theorem sx{ps:List (Int×Bool)}{s:Int}(h:atOf ps s=none)(hs:0<=s){k:Nat}(hk:k<ps.length):ps[k].1≠s:=by
 unfold atOf at h;rw[if_neg oM,List.findIdx?_eq_none_iff]at h;have:=h ps[k] (qyu hk);simpa using this
theorem Good.at{ps:List (Int×Bool)}{slots:Nat}(h:Good ps slots){k:Nat}(hk:k<ps.length)(h0:0<=ps[k].1):atOf ps ps[k].1=some k:=by
 cases ha:atOf ps ps[k].1 with
 |none=>exact absurd rfl (sx ha h0 hk)
 |some j=>
  obtain⟨_,hj,he⟩:=yO ha;rw[h.inj k j hk hj h0 he.symm]
theorem Good.iff{ps:List (Int×Bool)}{slots:Nat}(h:Good ps slots){s:Int}{k:Nat}:atOf ps s=some k↔0<=s/\∃h:k<ps.length,ps[k].1=s:=
 ⟨yO,fun⟨h0,hk,he⟩=>by subst he;exact h.at hk h0⟩
theorem Vm{α:Type}{o p:Option α}(h:∀a,o=some a↔p=some a):o=p:=by
 cases o with
 |none=>cases p with
  |none=>rfl
  |some b=>exact absurd ((h b).2 rfl) oe
 |some a=>exact((h a).1 rfl).symm
theorem Good.start(n slots:Nat):Good (List.replicate n (-1,false)) slots:=
 ⟨fun k h=> .inl oe,fun i j hi hj h0 _=>by simp at h0⟩
theorem XV(n:Nat):atOf (List.replicate n (-1,false))=fun _=>none:=by
 funext s
 cases h:atOf (List.replicate n (-1,false)) s with
 |none=>rfl
 |some k=>
  obtain⟨h0,hk,he⟩:=yO h;simp at he;omega
section
variable{ps:List (Int×Bool)}{slots k:Nat}
theorem Good.drop(h:Good ps slots)(k:Nat):Good (ps.set k (-1,false)) slots:=by
 refine⟨fun i hi=>?_,fun i j hi hj h0 he=>?_⟩
 .rw [qyw];split
  .exact .inl rfl
  .exact h.each i ox
 .rw [qyw]at h0 he;rw[qyw]at he;by_cases h1:k=i
  .simp [h1]at h0
  .by_cases h2:k=j
   .rw [if_neg h1,if_pos h2]at he;rw[if_neg h1]at h0;simp at he;omega
   .rw [if_neg h1,if_neg h2]at he;rw[if_neg h1]at h0;exact h.inj i j ox oz h0 he
theorem Good.atOf_drop(h:Good ps slots)(hk:k<ps.length):atOf (ps.set k (-1,false))=xP (atOf ps) ps[k].1 none:=by
 funext s
 refine Vm fun a=>?_;rw[(h.drop k).iff];unfold xP;constructor
 .rintro ⟨h0,ha,he⟩;rw[qyw]at he;split at he
  .simp at he;omega
  .rename_i hne
   have ha':a<ps.length:=by simpa using ha
   subst he;split
   .rename_i e
    exact absurd (h.inj a k ha' hk h0 e) (fun e=>hne e.symm)
   .exact h.at ha' h0
 .intro e;split at e
  .cases e
  .rename_i hne
   obtain⟨h0,ha,he⟩:=yO e;refine⟨h0,by simpa using ha,?_⟩;rw[qyw];split
   .rename_i e2
    subst e2;exact absurd he.symm hne
   .exact he
def mayPut(ps:List (Int×Bool))(k:Nat)(s:Int):Prop:=atOf ps s=none\/atOf ps s=some k
theorem uO(h:Good ps slots){s:Int}(hm:mayPut ps k s)(h0:0<=s){i:Nat}(hi:i<ps.length)(hne:i≠k):ps[i].1≠s:=by
 rcases hm with hm|hm
 .exact sx hm h0 hi
 .intro e;subst e;have:=h.at hi h0;rw[this]at hm;exact hne (by injection hm)
theorem Good.put(h:Good ps slots)(_:k<ps.length){s:Int}(d:Bool)(h0:0<=s)(h1:s<slots)(hm:mayPut ps k s):Good (ps.set k (s,d)) slots:=by
 refine⟨fun i hi=>?_,fun i j hi hj h2 he=>?_⟩
 .rw [qyw];split
  .exact .inr ⟨h0,h1⟩
  .exact h.each i ox
 .have hi':i<ps.length:=by simpa using hi
  have hj':j<ps.length:=by simpa using hj
  rw[qyw]at h2 he;rw[qyw]at he;by_cases e1:k=i
  .by_cases e2:k=j
   .exact e1.symm.trans e2
   .rw [if_pos e1,if_neg e2]at he;exact absurd he.symm (uO h hm h0 hj' (fun e=>e2 e.symm))
  .by_cases e2:k=j
   .rw [if_neg e1,if_pos e2]at he;exact absurd he (uO h hm h0 hi' (fun e=>e1 e.symm))
   .rw [if_neg e1,if_neg e2]at he;rw[if_neg e1]at h2;exact h.inj i j hi' hj' h2 he
theorem Good.atOf_put(h:Good ps slots)(hk:k<ps.length){s:Int}(d:Bool)(h0:0<=s)(h1:s<slots)(hm:mayPut ps k s):atOf (ps.set k (s,d))=xP (xP (atOf ps) ps[k].1 none) s (some k):=by
 funext x
 refine Vm fun a=>?_;rw[(h.put hk d h0 h1 hm).iff];simp only[xP];constructor
 .rintro ⟨hx,ha,he⟩;have ha':a<ps.length:=by simpa using ha
  rw[qyw]at he;by_cases e:k=a
  .rw [if_pos e]at he;simp at he;rw[if_pos he.symm,e]
  .rw [if_neg e]at he;subst he;rw[if_neg (uO h hm h0 ha' (fun e'=>e e'.symm))];split
   .rename_i e3
    exact absurd (h.inj a k ha' hk hx e3) (fun e'=>e e'.symm)
   .exact h.at ha' hx
 .intro e;by_cases hxs:x=s
  .rw [if_pos hxs]at e;cases e;refine⟨oM,by simpa using hk,?_⟩;rw[qyw,if_pos rfl];exact hxs.symm
  .rw [if_neg hxs]at e;split at e
   .cases e
   .rename_i hne
    obtain⟨hx,ha,he⟩:=yO e;refine⟨hx,by simpa using ha,?_⟩;rw[qyw];split
    .rename_i e2
     subst e2;exact absurd he.symm hne
    .exact he
end
theorem YB(ts te:TypeId)(k:Nat)(hk:0<k)(hu:prog.underlying ts=some (.slice te))(hinf:∃i z,prog.info? te=some i/\i.zero=some z/\z.cells.size=k/\i.size=k)(v:Value)(hv:v.cells.size=k)(hb:k<=1000)(w:World):
  (Instr.buildSlice ts 1 #[(0,v)]).run prog w=.ok (.slice (some ⟨w.heap.size,0,none⟩) 1 1) (w.alloc (.cells v.cells te)):=by
 obtain⟨i,z,hi,hz,hs,hsz⟩:=hinf;refine run_buildSlice w _ _ 1 _ _ i z hu hi hz (by rw[hsz];omega) (by rw[hsz];omega) ?_;obtain⟨a1,a2⟩:=yM 0 v.cells ((Array.range (1*i.size)).map (z.cells[·%z.cells.size]!));rw[show(#[(0,v)]:Array (Nat×Value)).toList=[(0,v)]from rfl];rw[xl _ _ 0 0 k v _ jC hv jC];show some _=_
 congr 1
 apply qxd
 intro j;rw[a2 j];by_cases hj:j<k
 .rw [if_pos ⟨oM,oM,by simp[hsz];omega⟩];rfl
 .rw [if_neg oM,qxf jP,qxf oM]
theorem ym{ops:Array Oper}{rest:List Oper}{op:Oper}{a:Act}{w:World}{Q:Exit->Act->World->Prop}(hgd:op.guard=none)(ts te:TypeId)(p:Operand)(ho:op.op=.buildSlice ts 1 #[(0,p)])(k:Nat)(hk:0<k)
  (hu:prog.underlying ts=some (.slice te)) (hinf:∃i z,prog.info? te=some i/\i.zero=some z/\z.cells.size=k/\i.size=k) (hb:k<=1000) (cs:List Value) (hp:a.eval p=.agg cs.toArray) (hc:cs.length=k)
  (h:wpList prog ops Q rest (a.put op.dst (.slice (some ⟨w.heap.size,0,none⟩) 1 1)) (w.alloc (.cells cs.toArray te))):wpList prog ops Q (op::rest) a w:=by
 refine qYz hgd fun K' hK'=>?_;unfold Oper.wp;have hrun:=YB ts te k hk hu hinf (.agg cs.toArray) (by simpa[Value.cells]using hc) hb w;simp only[execOp,ho,qzk,qzh,qzj,hp,qYf,hrun,qYe];exact hK' _ _ h
theorem zS{ops:Array Oper}{rest:List Oper}{o:Oper}{a:Act}{w:World}{Q:Exit->Act->World->Prop}(hg:o.guard=none)(t:TypeId)(ho:o.op=.alloc t)(cs:Array Value)
  (hrun:∀w:World,(Instr.alloc t true (.tuple #[])).run prog w=.ok (.pointer (some ⟨w.heap.size,0,none⟩)) (w.alloc (.cells cs t)))
  (h:wpList prog ops Q rest (a.put o.dst (.pointer (some ⟨w.heap.size,0,none⟩))) (w.alloc (.cells cs t))):wpList prog ops Q (o::rest) a w:=by
 refine qYz hg fun K' hK'=>?_;unfold Oper.wp;simp only[execOp,ho,qYf,hrun,qYe];exact hK' _ _ h
theorem uP{P:Program}{ops:Array Oper}{rest:List Oper}{op:Oper}{a:Act}{w:World}{Q:Exit->Act->World->Prop}(hw:Region.wanted op (yielded ops a.tmps)=true)(ty:TypeId)(x:Operand)(ho:op.op=.load ty x)
  (b o:Nat) (hx:a.eval x=.pointer (some ⟨b,o,none⟩)) (cs:List Value) (d:TypeDesc) (hc:w.rangeAt b o cs)
  (hu:P.underlying ty=some d) (hd:d.isRow=true) (hi:(P.info? ty).map (·.size)=some cs.length)
  (h:wpList P ops Q rest (a.put op.dst (.agg cs.toArray)) w):wpList P ops Q (op::rest) a w:=
 wpList_step fun K hK=>by rw[if_pos hw];exact wp_load_mid ty x ho b o hx cs d hc hu hd hi (hK _ _ h)
theorem Qm(w:World):(sizeOf 5).run prog w=.ok 1 w:=by
 obtain⟨i,hi,hs⟩:=qYb.1 (show(prog.info? 5).map (·.size)=some 1 by kernel_rfl);simp[sizeOf,typeInfo,hi,hs]
theorem qp(x y:Bk)(hx:x.length=64)(hy:y.length=64)(w:World):(binOp .eql 60 (.agg (bkC x).toArray) (.agg (bkC y).toArray)).run prog w=.ok (.bool (x==y)) w:=
 run_eql_bytes w 60 5 64 underlying60 underlying5 Qm x y hx hy
theorem qr(x y:Bk)(hx:x.length=64)(hy:y.length=64)(w:World):(binOp .neq 60 (.agg (bkC x).toArray) (.agg (bkC y).toArray)).run prog w=.ok (.bool (!(x==y))) w:=by
 have e:(Op.equalIn 10000 60 (.agg (bkC x).toArray) (.agg (bkC y).toArray)).run prog w=.ok (x==y) w:=run_equalIn_bytes w 9998 60 5 64 underlying60 underlying5 Qm x y hx hy;rw[run_neq_struct,e];rfl
end Go.Proofs.YtpejdgiccaijfaaGreatDoor
