/- The plain law -/
import Derived.Test.YtbnpkobbnjihjaaGreatDoorG01
import Derived.Maps.Views
import Derived.Maps.OwnSet
import Derived.MapKept
import Derived.Maps.RangeWalk
import Derived.RangeFuncNested
import Derived.RangeFuncBound
import Derived.RangeFuncCalls
import Derived.RangeFuncLeaves
import Derived.RangeFuncBox
import Derived.Shelf.Abstract
import Derived.OwnWalkIn
import Derived.TacticsInMore
import Derived.LoopNIn
import Derived.LoopIn
import Derived.Maps.AppendAt
set_option maxHeartbeats 2000000
set_option maxRecDepth 100000
namespace Go.Proofs.YtbnpkobbnjihjaaGreatDoor
variable{w w':World}{x s:Int}{k mb N b c r cnt:Nat}{S:Nat->Prop}{e t:TypeId}{l:List Int}{f:Int->Option Nat}{v:Value}{ps:List (Int×Bool)}{left:Int->Bool}
def xT(f:Int->Option Nat)(s:Int)(o:Option Nat):Int->Option Nat:=fun x=>if x=s then o else f x
def atOf(ps:List (Int×Bool))(s:Int):Option Nat:=if s<0 then none else ps.findIdx? (fun p=>p.1==s)
structure Good(ps:List (Int×Bool))(slots:Nat):Prop where
 each:∀k (h:k<ps.length),ps[k]=(-1,false)\/(0<=ps[k].1/\ps[k].1<slots)
 inj:∀i j (hi:i<ps.length) (hj:j<ps.length),0<=ps[i].1->ps[i].1=ps[j].1->i=j
theorem yS(h:atOf ps s=some k):0<=s/\∃h:k<ps.length,ps[k].1=s:=by
 unfold atOf at h;split at h
 .cases h
 .rw [List.findIdx?_eq_some_iff_getElem]at h;obtain⟨j,h1,_⟩:=h;exact⟨oM,j,by simpa using h1⟩
theorem sQ(h:atOf ps s=none)(n:0<=s)(j:k<ps.length):ps[k].1≠s:=by
 unfold atOf at h;rw[if_neg oM,List.findIdx?_eq_none_iff]at h;have:=h ps[k] (qyu j);simpa using this
theorem Good.at{slots:Nat}(p:Good ps slots)(h:k<ps.length)(j:0<=ps[k].1):atOf ps ps[k].1=some k:=by
 cases n:atOf ps ps[k].1 with
 |none=>exact absurd rfl (sQ n j h)
 |some q=>
  obtain⟨_,A,D⟩:=yS n;rw[p.inj k q h A j D.symm]
theorem Good.iff{slots:Nat}(h:Good ps slots):atOf ps s=some k↔0<=s/\∃h:k<ps.length,ps[k].1=s:=
 ⟨yS,fun⟨j,n,p⟩=>by subst p;exact h.at n j⟩
theorem UB{α:Type}{o p:Option α}(h:∀a,o=some a↔p=some a):o=p:=by
 cases o with
 |none=>cases p with
  |none=>rfl
  |some b=>exact absurd ((h b).2 rfl) oe
 |some a=>exact((h a).1 rfl).symm
theorem Good.start(n slots:Nat):Good (List.replicate n (-1,false)) slots:=
 ⟨fun k h=> .inl oe,fun i p q A j _=>by simp at j⟩
theorem Va(n:Nat):atOf (List.replicate n (-1,false))=fun _=>none:=by
 funext s
 cases h:atOf (List.replicate n (-1,false)) s with
 |none=>rfl
 |some k=>
  obtain⟨p,q,j⟩:=yS h;simp at j;omega
section
variable{ps:List (Int×Bool)}{slots k:Nat}
theorem Good.drop(h:Good ps slots)(k:Nat):Good (ps.set k (-1,false)) slots:=by
 refine⟨fun i hi=>?_,fun i p hi hj n j=>?_⟩
 .rw [qyw];split
  .exact .inl rfl
  .exact h.each i oB
 .rw [qyw]at n j;rw[qyw]at j;by_cases h1:k=i
  .simp [h1]at n
  .by_cases h2:k=p
   .rw [if_neg h1,if_pos h2]at j;rw[if_neg h1]at n;simp at j;omega
   .rw [if_neg h1,if_neg h2]at j;rw[if_neg h1]at n;exact h.inj i p oB oz n j
theorem Good.atOf_drop(n:Good ps slots)(D:k<ps.length):atOf (ps.set k (-1,false))=xT (atOf ps) ps[k].1 none:=by
 funext s
 refine UB fun a=>?_;rw[(n.drop k).iff];unfold xT;constructor
 .rintro ⟨j,p,h⟩;rw[qyw]at h;split at h
  .simp at h;omega
  .rename_i q
   have A:a<ps.length:=by simpa using p
   subst h;split
   .rename_i e
    exact absurd (n.inj a k A D j e) (fun e=>q e.symm)
   .exact n.at A j
 .intro e;split at e
  .cases e
  .rename_i q
   obtain⟨j,p,h⟩:=yS e;refine⟨j,by simpa using p,?_⟩;rw[qyw];split
   .rename_i E
    subst E;exact absurd h.symm q
   .exact h
def mayPut(ps:List (Int×Bool))(k:Nat)(s:Int):Prop:=atOf ps s=none\/atOf ps s=some k
theorem tx(p:Good ps slots)(h:mayPut ps k s)(j:0<=s){i:Nat}(n:i<ps.length)(q:i≠k):ps[i].1≠s:=by
 rcases h with h|h
 .exact sQ h j n
 .intro e;subst e;have:=p.at n j;rw[this]at h;exact q (by injection h)
theorem Good.put(h:Good ps slots)(_:k<ps.length)(d:Bool)(A:0<=s)(h1:s<slots)(D:mayPut ps k s):Good (ps.set k (s,d)) slots:=by
 refine⟨fun i hi=>?_,fun i q hi G h2 j=>?_⟩
 .rw [qyw];split
  .exact .inr ⟨A,h1⟩
  .exact h.each i oB
 .have E:i<ps.length:=by simpa using hi
  have F:q<ps.length:=by simpa using G
  rw[qyw]at h2 j;rw[qyw]at j;by_cases n:k=i
  .by_cases p:k=q
   .exact n.symm.trans p
   .rw [if_pos n,if_neg p]at j;exact absurd j.symm (tx h D A F (fun e=>p e.symm))
  .by_cases p:k=q
   .rw [if_neg n,if_pos p]at j;exact absurd j (tx h D A E (fun e=>n e.symm))
   .rw [if_neg n,if_neg p]at j;rw[if_neg n]at h2;exact h.inj i q E F h2 j
theorem Good.atOf_put(h:Good ps slots)(n:k<ps.length)(d:Bool)(E:0<=s)(h1:s<slots)(F:mayPut ps k s):atOf (ps.set k (s,d))=xT (xT (atOf ps) ps[k].1 none) s (some k):=by
 funext x
 refine UB fun a=>?_;rw[(h.put n d E h1 F).iff];simp only[xT];constructor
 .rintro ⟨hx,p,j⟩;have q:a<ps.length:=by simpa using p
  rw[qyw]at j;by_cases e:k=a
  .rw [if_pos e]at j;simp at j;rw[if_pos j.symm,e]
  .rw [if_neg e]at j;subst j;rw[if_neg (tx h F E q (fun A=>e A.symm))];split
   .rename_i G
    exact absurd (h.inj a k q n hx G) (fun A=>e A.symm)
   .exact h.at q hx
 .intro e;by_cases D:x=s
  .rw [if_pos D]at e;cases e;refine⟨oM,by simpa using n,?_⟩;rw[qyw,if_pos rfl];exact D.symm
  .rw [if_neg D]at e;split at e
   .cases e
   .rename_i H
    obtain⟨hx,p,j⟩:=yS e;refine⟨hx,by simpa using p,?_⟩;rw[qyw];split
    .rename_i J
     subst J;exact absurd j.symm H
    .exact j
end
open Go Go.RowKit Go.Maps Tryz
def MapAt(w:World)(mb N:Nat)(f:Int->Option Nat):Prop:=
 ∃D:DataW Unit,w.ownsMap prog 3 (plainElem prog 3) mb N D/\
  ∀s:Int,Maps.has D (.int .i64 s)=(f s).isSome/\∀c,f s=some c->∀z,D.atKey (.int .i64 s) z=.lit (.int .i64 (c:Int))
theorem yB:Keyed prog 3:=int_keyed underlying3
theorem wfI(h1: -9223372036854775808<=x)(h2:x<9223372036854775808):(Lit.int .i64 x).wf=true:=by
 have j:IntKind.i64.min= -9223372036854775808:=de;have n:IntKind.i64.max=9223372036854775807:=de;simp only[Lit.wf,j,n,qxo,qYt];omega
theorem qm(h1: -9223372036854775808<=x)(h2:x<9223372036854775808):keyOf prog 3 (.int .i64 x)=some (.int .i64 x):=keyOf_int_mk underlying3 (wfI h1 h2)
theorem MapAt.lt(h:MapAt w mb N f):mb<w.heap.size:=by obtain⟨D,h,_⟩:=h;exact h.lt
theorem MapAt.keep(j:MapAt w mb N f)(n:Upd S w w')(p:¬S mb):MapAt w' mb N f:=by
 obtain⟨q,⟨A,D,h,r⟩,E⟩:=j;exact⟨q,⟨A,D,(n.block _ (zd h) p).trans h,r⟩,E⟩
theorem MapAt.mono{j:Nat}(h:MapAt w mb N f)(n:N<=j):MapAt w mb j f:=by obtain⟨p,h,q⟩:=h;exact⟨p,h.mono n,q⟩
theorem MapAt.made(w:World):MapAt (w.alloc (.map #[] 0)) w.heap.size 0 (fun _=>none):=
 ⟨.map [],World.ownsMap_made w _ _ _,fun s=>⟨rfl,fun c h=>by cases h⟩⟩
theorem yC(h:w.mapTurned w' b):Upd (fun j=>j=b) w w':=by
 obtain⟨a,n,c,d,e⟩:=h.grown;exact⟨a,n,c,d,fun i p q=>e i p (fun e=>q (by simpa using e))⟩
theorem yu(h:w.mapTurned w' b):w'.heap.size=w.heap.size:=by
 obtain⟨j,n,p,q,A,rfl⟩:=h;simp[Go.ChangeMaps.setBlock]
theorem Sb(w:World):(zeroValue 3).run prog w=.ok (.int .i64 0) w:=by
 exact Tryz.zeroValue3 w
theorem Zcg04{P:Prop}(h:P:=by
  have:c=(((f x).getD 0:Nat):Int):=by
   cases hx:f x with
   |none=>
    have p:=(n x).1;rw[hx]at p;have:=atKey_of_not_has (D:=q) p (.lit (.int .i64 0));rw[this]at j;simp at j;simpa using j.1.symm
   |some G=>
    have:=(n x).2 G hx (.lit (.int .i64 0));rw[this]at j;simp at j;simpa using j.1.symm
  rw[this]):P:=h
theorem MapAt.look(h:MapAt w mb N f)(h1: -9223372036854775808<=x)(h2:x<9223372036854775808):
  (Instr.lookup 145 (.map (some mb)) (.int .i64 x) true).run prog w=.ok (.tuple #[.int .i64 (((f x).getD 0:Nat):Int),.bool (f x).isSome]) w:=by
 obtain⟨q,A,n⟩:=h;obtain⟨v,ps,E,F⟩:=A.look_ok yB underlying145 (Sb w) (plainElem_int underlying3 de) (qm h1 h2);obtain⟨c,rfl,j,H⟩:=plainElem_int_inv underlying3 F;simp only[qYe]at j;rw[E,(n x).1];exact Zcg04
theorem MapAt.drop(A:MapAt w mb N f)(h1: -9223372036854775808<=x)(h2:x<9223372036854775808)(j:TypeId):
  ∃w',(Builtin.delete_ #[145,3] j #[.map (some mb),.int .i64 x]).run prog w=.ok (.tuple #[]) w'/\MapAt w' mb N (xT f x none)/\Upd (fun D=>D=mb) w w'/\w'.heap.size=w.heap.size:=by
 obtain⟨J,E,n⟩:=A;obtain⟨w',F,G,p⟩:=E.drop yB underlying145 (qm h1 h2) j;refine⟨w',F,⟨_,G,fun s=>?_⟩,yC p,yu p⟩;by_cases h:s=x
 .subst h;simp[xT,has_del_same]
 .have q:Lit.int .i64 s≠Lit.int .i64 x:=fun e=>h (by injection e);simp only[xT,if_neg h,has_del_other q];exact⟨(n s).1,fun c H z=>by rw[atKey_del_other q];exact(n s).2 c H z⟩
theorem MapAt.store(h:MapAt w mb N f)(h1: -9223372036854775808<=x)(h2:x<9223372036854775808)(c:Nat)(n:c<9223372036854775808)(H:N<maxLen):
  ∃w',(Instr.mapUpdate 145 (.map (some mb)) (.int .i64 x) (.int .i64 (c:Int))).run prog w=.ok () w'/\MapAt w' mb (N+1) (xT f x (some c))/\Upd (fun J=>J=mb) w w'/\w'.heap.size=w.heap.size:=by
 obtain⟨M,p,q⟩:=h;have A:=p.isMap;have D:∀y:Int,WideAt.IsKeyLit (.int .i64 y):=fun _=>trivial;obtain⟨w',K,L,E⟩:=p.store (ps:=[]) (d:=.lit (.int .i64 (c:Int))) yB underlying145 H (qm h1 h2) (plainElem_int underlying3 (wfI oM oM));refine⟨w',K,⟨_,L,fun s=>?_⟩,yC E,yu E⟩;by_cases j:s=x
 .subst j;simp only[xT];exact⟨by rw[has_put_same A (D _)];simp,fun O F z=>by simp at F;subst F;exact atKey_put_same A (D _) _ _⟩
 .have G:Lit.int .i64 s≠Lit.int .i64 x:=fun e=>j (by injection e);simp only[xT,if_neg j,has_put_other G];exact⟨(q s).1,fun c n z=>by rw[atKey_put_other G];exact(q s).2 c n z⟩
theorem ZH{y:Int}(e:Lit.int .i64 x=Lit.int .i64 y):x=y:=by injection e
section
variable{α:Type}
open Classical in
noncomputable def decR (enc:α->Value) (v:Value):Option (DataW α×List MemPlace):=if h:∃e,v=enc e then some (.held (Classical.choose h),[])else none
variable{enc:α->Value}
theorem uB(j:∀x y,enc x=enc y->x=y)(e:α):decR enc (enc e)=some (.held e,[]):=by
 have h:∃n,enc e=enc n:=⟨e,rfl⟩
 unfold decR;rw[dif_pos h,<-j _ _ (Classical.choose_spec h)]
theorem uC{y:DataW α×List MemPlace}(h:decR enc v=some y):∃e,v=enc e/\y=(.held e,[]):=by
 unfold decR at h;split at h
 .rename_i hx
  cases h;exact⟨_,Classical.choose_spec hx,rfl⟩
 .cases h
def Vb(D:DataW α)(f:Int->Option α):Prop:=∀s:Int,Maps.has D (.int .i64 s)=(f s).isSome/\∀c,f s=some c->∀z,D.atKey (.int .i64 s) z=.held c
variable(enc)
def MapG(w:World)(mb N:Nat)(f:Int->Option α):Prop:=∃D:DataW α,w.ownsMap prog 3 (decR enc) mb N D/\Vb D f
def ZI(w:World)(mb r N:Nat)(f:Int->Option α)(left:Int->Bool)(cnt:Nat):Prop:=
 ∃(D:DataW α) (lf:Lit->Bool),w.ranges prog 3 (decR enc) mb r N D lf cnt/\Vb D f/\∀s:Int,lf (.int .i64 s)=left s
variable{enc}
variable{w:World}{mb N:Nat}{f:Int->Option α}
theorem MapG.lt(h:MapG enc w mb N f):mb<w.heap.size:=by obtain⟨D,h,_⟩:=h;exact h.lt
theorem MapG.keep(j:MapG enc w mb N f)(n:Upd S w w')(p:¬S mb):MapG enc w' mb N f:=by
 obtain⟨q,⟨A,D,h,r⟩,E⟩:=j;exact⟨q,⟨A,D,(n.block _ (zd h) p).trans h,r⟩,E⟩
theorem MapG.mono{j:Nat}(h:MapG enc w mb N f)(n:N<=j):MapG enc w mb j f:=by obtain⟨p,h,q⟩:=h;exact⟨p,h.mono n,q⟩
theorem MapG.made(w:World):MapG enc (w.alloc (.map #[] 0)) w.heap.size 0 (fun _=>none):=
 ⟨.map [],World.ownsMap_made w _ _ _,fun s=>⟨rfl,fun c h=>by cases h⟩⟩
theorem Zcg041{P:Prop}(h:P:=by
  have:c=(f x).getD z0:=by
   cases hx:f x with
   |none=>
    have n:=(j x).1;rw[hx]at n;have:=atKey_of_not_has (D:=F) n (.held z0);rw[this]at h;exact(DataW.held.inj h.1).symm
   |some K=>
    have:=(j x).2 K hx (.held z0);rw[this]at h;exact(DataW.held.inj h.1).symm
  rw[this]):P:=h
theorem MapG.look(p:MapG enc w mb N f)(q:∀x y,enc x=enc y->x=y)(A:prog.underlying t=some (.map 3 e)){z0:α}(E:(zeroValue e).run prog w=.ok (enc z0) w)(h1: -9223372036854775808<=x)(h2:x<9223372036854775808):
  (Instr.lookup t (.map (some mb)) (.int .i64 x) true).run prog w=.ok (.tuple #[enc ((f x).getD z0),.bool (f x).isSome]) w:=by
 obtain⟨F,G,j⟩:=p;obtain⟨v,ps,H,J⟩:=G.look_ok yB A E (uB q z0) (qm h1 h2);obtain⟨c,rfl,h⟩:=uC J;simp only[qYe]at h;rw[H,(j x).1];exact Zcg041
theorem MapG.drop(A:MapG enc w mb N f)(D:prog.underlying t=some (.map 3 e))(h1: -9223372036854775808<=x)(h2:x<9223372036854775808)(j:TypeId):
  ∃w',(Builtin.delete_ #[t,3] j #[.map (some mb),.int .i64 x]).run prog w=.ok (.tuple #[]) w'/\MapG enc w' mb N (fun s=>if s=x then none else f s)/\Upd (fun E=>E=mb) w w'/\w'.heap.size=w.heap.size:=by
 obtain⟨K,F,n⟩:=A;obtain⟨w',G,H,p⟩:=F.drop yB D (qm h1 h2) j;refine⟨w',G,⟨_,H,fun s=>?_⟩,yC p,yu p⟩;by_cases h:s=x
 .subst h;simp[has_del_same]
 .have q:Lit.int .i64 s≠Lit.int .i64 x:=fun e=>h (ZH e);simp only[if_neg h,has_del_other q];exact⟨(n s).1,fun c J z=>by rw[atKey_del_other q];exact(n s).2 c J z⟩
theorem MapG.store(E:MapG enc w mb N f)(F:∀x y,enc x=enc y->x=y)(G:prog.underlying t=some (.map 3 e))(h1: -9223372036854775808<=x)(h2:x<9223372036854775808)(c:α)(H:N<maxLen):
  ∃w',(Instr.mapUpdate t (.map (some mb)) (.int .i64 x) (enc c)).run prog w=.ok () w'/\MapG enc w' mb (N+1) (fun s=>if s=x then some c else f s)/\Upd (fun J=>J=mb) w w'/\w'.heap.size=w.heap.size:=by
 obtain⟨P,j,n⟩:=E;have p:=j.isMap;have q:∀y:Int,WideAt.IsKeyLit (.int .i64 y):=fun _=>trivial;obtain⟨w',K,L,A⟩:=j.store (ps:=[]) (d:=.held c) yB G H (qm h1 h2) (uB F c);refine⟨w',K,⟨_,L,fun s=>?_⟩,yC A,yu A⟩;by_cases h:s=x
 .subst h;simp only[if_pos];exact⟨by rw[has_put_same p (q _)];rfl,fun R M z=>by obtain rfl:=qYd M;exact atKey_put_same p (q _) _ _⟩
 .have D:Lit.int .i64 s≠Lit.int .i64 x:=fun e=>h (ZH e);simp only[if_neg h,has_put_other D];exact⟨(n s).1,fun c O z=>by rw[atKey_put_other D];exact(n s).2 c O z⟩
theorem MapG.look1(p:MapG enc w mb N f)(q:∀x y,enc x=enc y->x=y)(A:prog.underlying t=some (.map 3 e)){z0:α}(E:(zeroValue e).run prog w=.ok (enc z0) w)(h1: -9223372036854775808<=x)(h2:x<9223372036854775808):
  (Instr.lookup t (.map (some mb)) (.int .i64 x) false).run prog w=.ok (enc ((f x).getD z0)) w:=by
 obtain⟨F,G,j⟩:=p;obtain⟨v,ps,H,J⟩:=G.lookup yB A E (uB q z0) (qm h1 h2);obtain⟨c,rfl,h⟩:=uC J;simp only[qYe]at h;rw[H];exact Zcg041
variable(enc)in
def MapC(w:World)(mb N:Nat)(f:Int->Option α)(c:Nat):Prop:=∃D:DataW α,w.ownsMap prog 3 (decR enc) mb N D/\Vb D f/\Maps.size D=c
theorem MapC.g(h:MapC enc w mb N f c):MapG enc w mb N f:=by obtain⟨D,h1,h2,-⟩:=h;exact⟨D,h1,h2⟩
theorem MapC.keep(j:MapC enc w mb N f c)(n:Upd S w w')(p:¬S mb):MapC enc w' mb N f c:=by
 obtain⟨q,⟨A,D,h,r⟩,E,F⟩:=j;exact⟨q,⟨A,D,(n.block _ (zd h) p).trans h,r⟩,E,F⟩
theorem MapC.made(w:World):MapC enc (w.alloc (.map #[] 0)) w.heap.size 0 (fun _=>none) 0:=
 ⟨.map [],World.ownsMap_made w _ _ _,fun s=>⟨rfl,fun c h=>by cases h⟩,rfl⟩
theorem MapC.len(h:MapC enc w mb N f c)(n:prog.underlying t=some (.map 3 e))(j:TypeId):(Builtin.len_ #[t] j #[.map (some mb)]).run prog w=.ok (.int .i64 (c:Int)) w:=by
 obtain⟨p,h,-,rfl⟩:=h;exact h.len n j
theorem MapC.store{h:Nat}(F:MapC enc w mb N f h)(G:∀x y,enc x=enc y->x=y)(H:prog.underlying t=some (.map 3 e))(h1: -9223372036854775808<=x)(h2:x<9223372036854775808)(c:α)(J:N<maxLen):
  ∃w',(Instr.mapUpdate t (.map (some mb)) (.int .i64 x) (enc c)).run prog w=.ok () w'/\MapC enc w' mb (N+1) (fun s=>if s=x then some c else f s) (if(f x).isSome then h else h+1)/\Upd (fun K=>K=mb) w w'/\w'.heap.size=w.heap.size:=by
 obtain⟨U,j,n,L⟩:=F;have q:=j.isMap;have A:∀y:Int,WideAt.IsKeyLit (.int .i64 y):=fun _=>trivial;obtain⟨w',M,O,D⟩:=j.store (ps:=[]) (d:=.held c) yB H J (qm h1 h2) (uB G c);refine⟨w',M,⟨_,O,fun s=>?_,?_⟩,yC D,yu D⟩
 .by_cases p:s=x
  .subst p;simp only[if_pos];exact⟨by rw[has_put_same q (A _)];rfl,fun V P z=>by obtain rfl:=qYd P;exact atKey_put_same q (A _) _ _⟩
  .have E:Lit.int .i64 s≠Lit.int .i64 x:=fun e=>p (ZH e);simp only[if_neg p,has_put_other E];exact⟨(n s).1,fun c R z=>by rw[atKey_put_other E];exact(n s).2 c R z⟩
 .rw [size_put (j.tidy yB),(n x).1,L]
theorem ZI.lt(h:ZI enc w mb r N f left cnt):mb<w.heap.size/\r<w.heap.size:=by
 obtain⟨j,n,h,-,-⟩:=h;exact⟨h.owns.lt,h.lt⟩
theorem ZI.keep(h:ZI enc w mb r N f left cnt)(j:Upd S w w')(h1:¬S mb)(h2:¬S r):ZI enc w' mb r N f left cnt:=by
 obtain⟨n,p⟩:=h.lt;obtain⟨q,A,⟨D,E,F,G,H,J,K,L,M,O,rest⟩,P,R⟩:=h;exact⟨q,A,⟨D,E,F,G,H,(j.block mb n h1).trans J,K,L,M,(j.block r p h2).trans O,rest⟩,P,R⟩
end
section
variable{α:Type}{enc:α->Value}{w:World}{ops:Array Oper}{rest:List Oper}{o:Oper}{a:Act}{Q:Exit->Act->World->Prop}{mb N:Nat}{f:Int->Option α}
theorem xB(h:o.guard=none)(m:Operand)(t:TypeId)(q:o.op=Op.range t m)(A:prog.underlying t=some (.map 3 e))
  (D:a.eval m=.map (some mb)) (E:MapG enc w mb N f)
  (F:∀w',(∃cnt,cnt<=N/\ZI enc w' mb w.heap.size N f (fun s=>(f s).isSome) cnt)->Upd (fun _=>False) w w'->w'.heap.size=w.heap.size+1->wpList prog ops Q rest (a.put o.dst (.pointer (some ⟨w.heap.size,0,none⟩))) w'):
  wpList prog ops Q (o::rest) a w:=by
 obtain⟨j,n,p⟩:=E;exact wpList_range_own w h m t q 3 e yB A (decR enc) mb N j D n (fun w' h1 h2 G=>F w' ⟨_,n.size_le,j,_,h1,p,fun s=>(p s).1⟩ (Upd.kj h2 (fun g h=>by cases h)) G)
theorem xO(j:o.guard=none)(n:Operand)(M:o.op=Op.next n false)
  (O:a.eval n=.pointer (some ⟨r,0,none⟩)) (p:ZI enc w mb r N f left cnt)
  (P:(∀s,left s=false)->wpList prog ops Q rest (a.put o.dst (.tuple #[.bool false])) w)
  (R:∀(x:Int) (c:α) (w':World),left x=true->f x=some c->(∃h,h<cnt/\ZI enc w' mb r N f (fun z=>left z&&!decide (z=x)) h)->Upd (fun U=>U=r) w w'->w'.heap.size=w.heap.size->
   (Instr.entry (.pointer (some ⟨r,0,none⟩))).run prog w'=.ok (.tuple #[.int .i64 x,enc c]) w'->wpList prog ops Q rest (a.put o.dst (.tuple #[.bool true,.int .i64 x,enc c])) w'):
  wpList prog ops Q (o::rest) a w:=by
 obtain⟨F,G,p,q,A⟩:=p;refine wpList_next_ranges w j n M 3 yB (decR enc) (Value.int .i64) enc (fun ae kl V=>?_) (fun v y D=>?_) mb r N F G cnt O p (fun _ W=>P (fun s=>by rw[<-A,W])) (fun x c kl y w' h X Y D H Z hlt a6 a7 J=>?_)
 .obtain ⟨x,hx,-⟩:=Maps.keyOf_int_inv underlying3 V;exact⟨x,hx⟩
 .obtain ⟨e,a8,-⟩:=uC D;exact⟨e,a8⟩
 .obtain ⟨af,aa,rfl,-⟩:=Maps.keyOf_int_inv underlying3 X;cases aa;obtain⟨K,ab,rfl⟩:=uC D;have ad:f x=some K:=by
   have h1:=has_true_of_atKey H;rw[(q x).1]at h1;obtain⟨c2,L⟩:=Option.isSome_iff_exists.1 h1;have h2:=(q x).2 c2 L (.held c2);rw[H]at h2;rw[L,DataW.held.inj h2]
  rw[ab]at J⊢;refine R x K w' (by rw[<-A];exact Y) ad ⟨h,hlt,F,_,Z,q,fun s=>?_⟩ (Upd.kj a6 (fun g j _=>(qYd j).symm)) a7 J;show(G (.int .i64 s)&&!(Lit.int .i64 s).sameKey (.int .i64 x))=_;rw[A];by_cases E:s=x
  .subst E;rw[WideAt.sameKey_self (show WideAt.IsKeyLit (.int .i64 s)from trivial),show(fun z=>left z&&!decide (z=s)) s=(left s&&!decide (s=s))from rfl,qYs rfl]
  .rw [sameKey_ne (fun e=>E (ZH e)),show(fun z=>left z&&!decide (z=x)) s=(left s&&!decide (s=x))from rfl,decide_eq_false E]
end
section
open Go Go.RowKit Tryz
structure Tur(w:World):Prop where
 c0:w.cell? ⟨0,0,none⟩=some (.int .i64 2)
 c1:w.cell? ⟨0,1,none⟩=some (.int .i64 28)
 c2:w.cell? ⟨0,2,none⟩=some (.int .i64 24)
 c3:w.cell? ⟨0,3,none⟩=some (.int .i64 17)
 c4:w.cell? ⟨0,4,none⟩=some (.int .i64 0)
theorem Tur.lt(h:Tur w):0<w.heap.size:=(zH h.c0).2
theorem Tur.keep(h:Tur w)(j:Upd S w w')(n:¬S 0):Tur w':=
 ⟨(j.cellAt h.lt n).trans h.c0,(j.cellAt h.lt n).trans h.c1,(j.cellAt h.lt n).trans h.c2,(j.cellAt h.lt n).trans h.c3,(j.cellAt h.lt n).trans h.c4⟩
def mayB(a b:Int):Bool:=
 if a=0 then b==1 else if a=1 then b==2||b==3||b==4 else if a=2 then b==3||b==4 else if a=3 then b==0||b==4 else false
def stateB(a:Int):Bool:=decide (0<=a)&&decide (a<=4)
theorem yH(a:Int)(w:World):Calls prog 248 #[.int .i64 a] w fun e w'=>e=.returned (.bool (stateB a))/\w'=w:=by
 by_cases h1:0<=a
 .by_cases h2:a<=4
  .go_enter func248,ntmps248
   go_wp2
   go_ret
   exact⟨by simp[stateB,h1,h2],rfl⟩
  .go_enter func248,ntmps248
   go_wp2
   go_ret
   exact⟨by simp[stateB,h1,h2],rfl⟩
 .go_enter func248,ntmps248
  go_wp2
  go_ret
  exact⟨by simp[stateB];omega,rfl⟩
theorem UC(a b:Int)(h:¬(0<=a/\a<=4)\/¬(0<=b/\b<=4)):mayB a b=false:=by
 unfold mayB
 repeat' split
 all_goals first|rfl|(simp;omega)
theorem UD(a b:Int)(w:World)(n:Tur w):Calls prog 249 #[.int .i64 a,.int .i64 b] w fun e w'=>e=.returned (.bool (mayB a b))/\w'=w:=by
 by_cases j:0<=a/\a<=4
 .by_cases p:0<=b/\b<=4
  .obtain ⟨F,c1,c2,G,H⟩:=n;have A:a=0\/a=1\/a=2\/a=3\/a=4:=oM;have D:b=0\/b=1\/b=2\/b=3\/b=4:=oM;clear j p;rcases A with rfl|rfl|rfl|rfl|rfl<;>rcases D with rfl|rfl|rfl|rfl|rfl
   all_goals
    go_enter func249,ntmps249
    go_wp2
    go_ret
    exact⟨rfl,rfl⟩
  .rw [UC a b (.inr p)];have q:stateB a=true:=by simp[stateB,j]
   have E:stateB b=false:=by simp[stateB];omega
   clear n j p;go_enter func249,ntmps249
   go_wp2_with fail
   refine(yH a _).mono ?_;rintro e w' ⟨rfl,rfl⟩;rw[q];go_wp2_with fail
   refine(yH b _).mono ?_;rintro e w' ⟨rfl,rfl⟩;rw[E];go_wp2
   go_ret
   exact⟨rfl,rfl⟩
 .rw [UC a b (.inl j)];have q:stateB a=false:=by simp[stateB];omega
  clear n j;go_enter func249,ntmps249
  go_wp2_with fail
  refine(yH a _).mono ?_;rintro e w' ⟨rfl,rfl⟩;rw[q];go_wp2
  go_ret
  exact⟨rfl,rfl⟩
structure SlotsAt(T:TypeId)(w:World)(b:Nat)(v:Value)(l:List Int):Prop where
 str:w.heap[b]?=some (.cells #[v] T (0,0))
 sl:Sl w 3 1 v l.length (ints l)
 ne:v.ownBlock≠some b
 le:l.length<=1024
abbrev uD(b:Nat):Value:=.pointer (some ⟨b,0,none⟩)
section
variable{T:TypeId}{w w':World}{b:Nat}{v:Value}{l:List Int}
theorem SlotsAt.keep(h:SlotsAt T w b v l)(j:Upd S w w')(n:¬S b)(p:∀g,v.ownBlock=some g->¬S g):SlotsAt T w' b v l:=
 ⟨(j.block b (zd h.str) n).trans h.str,h.sl.keep j p,h.ne,h.le⟩
theorem SlotsAt.new(h:SlotsAt T w b v l)(j:Upd (fun _=>False) w w'):SlotsAt T w' b v l:=h.keep j id (fun _ _ h=>h)
theorem Sl.set{g off n cap:Nat}(h:Sl w e 1 (.slice (some ⟨g,off,none⟩) n cap) n (ints l))(i:Nat)(K:i<n)(x:Int):
  Sl (w.setCell ⟨g,off+i,none⟩ (.int .i64 x)) e 1 (.slice (some ⟨g,off,none⟩) n cap) n (ints (l.set i x)):=by
 obtain⟨D,⟨h1,_⟩|⟨L,M,O,R,h1,E,F,G,H,J⟩⟩:=h
 .cases h1
 .cases h1;refine⟨by simpa using D,.inr ⟨g,off,cap,_,rfl,zh E _ _,F,G,by simpa using H,fun j u p=>?_⟩⟩;have q:j<l.length:=by have:=(qyl.1 p).1;simpa using this
  rw[yp (by simpa using q)]at p;cases p;by_cases A:i=j
  .subst A;rw[Array.getElem?_setIfInBounds_self,if_pos oM];simp
  .rw [qxg oM,List.getElem_set_ne A];exact J j _ (yp q)
theorem SlotsAt.set{g off cap:Nat}(h:SlotsAt T w b (.slice (some ⟨g,off,none⟩) l.length cap) l)(i:Nat)(n:i<l.length)(x:Int):
  SlotsAt T (w.setCell ⟨g,off+i,none⟩ (.int .i64 x)) b (.slice (some ⟨g,off,none⟩) l.length cap) (l.set i x)/\Upd (ownS (.slice (some ⟨g,off,none⟩) l.length cap)) w (w.setCell ⟨g,off+i,none⟩ (.int .i64 x)):=by
 have j:Upd (ownS (.slice (some ⟨g,off,none⟩) l.length cap)) w (w.setCell ⟨g,off+i,none⟩ (.int .i64 x)):=(zi w g (off+i) _).mono (fun k _ p=>by subst p;rfl);refine⟨⟨(j.block b (zd h.str) (fun e=>h.ne e)).trans h.str,?_,h.ne,by simpa using h.le⟩,j⟩;have:=h.sl.set i n x;rw[qze];exact this
theorem SlotsAt.at(h:SlotsAt T w b v l){i:Nat}(q:i<l.length):∃g j n,v=.slice (some ⟨g,j,none⟩) l.length n/\w.cell? ⟨g,j+i,none⟩=some (.int .i64 l[i])/\w.frozen? ⟨g,j+i,none⟩=false:=by
 obtain⟨g,j,n,D,rfl,p,_,A⟩:=h.sl.at oM;exact⟨g,j,n,rfl,by rw[za p];exact A i _ (yp q),zg p _⟩
end
section
variable{w:World}{b:Nat}{v:Value}{l:List Int}
theorem TO(h:SlotsAt 292 w b v l)(slot:Int)(j:slot<0\/(l.length:Int)<=slot):
  Calls prog 247 #[uD b,.int .i64 slot] w fun e w'=>e=.returned (.tuple #[.int .i64 0,.int .i64 10])/\w'=w:=by
 have n:=za h.str 0;simp at n;have p:=h.le;obtain⟨q,c,rfl⟩:=h.sl.rd.jW;clear h;by_cases A:slot<0
 .clear j;go_enter func247,ntmps247
  go_wp2
  go_ret2
  exact⟨rfl,rfl⟩
 .have h1:(l.length:Int)<=slot:=oM;clear j;go_enter func247,ntmps247
  go_wp2
  go_ret2
  exact⟨rfl,rfl⟩
theorem qP(h:SlotsAt 292 w b v l)(i:Nat)(j:i<l.length):
  Calls prog 247 #[uD b,.int .i64 i] w fun e w'=>e=.returned (.tuple #[.int .i64 l[i],.int .i64 0])/\w'=w:=by
 have n:=za h.str 0;simp at n;have p:=h.le;obtain⟨g,q,A,rfl,D,E⟩:=h.at j;clear h;go_enter func247,ntmps247
 go_wp2
 go_ret2
 exact⟨rfl,rfl⟩
def turnCode(l:List Int)(slot state:Int):Int:=
 if slot<0\/(l.length:Int)<=slot then 10 else if stateB state=false then 1 else if mayB (l.getD slot.toNat 0) state=false then 16 else 0
def turnList(l:List Int)(slot state:Int):List Int:=if turnCode l slot state=0 then l.set slot.toNat state else l
theorem Xd(h:SlotsAt 292 w b v l)(J:Tur w)(slot j:Int):
  Calls prog 187 #[uD b,.int .i64 slot,.int .i64 j] w fun e w'=>e=.returned (.int .i64 (turnCode l slot j))/\
   SlotsAt 292 w' b v (turnList l slot j)/\Upd (ownS v) w w':=by
 have A:=qqh h;have K:=qqh J;clear J;by_cases q:slot<0\/(l.length:Int)<=slot
 .have n:turnCode l slot j=10:=by simp[turnCode,q]
  have p:turnList l slot j=l:=by simp[turnList,n]
  rw[n,p];have O:=qqh q;clear h n p q;go_enter func187,ntmps187
  go_wp2_with fail
  refine(TO A.o _ O.o).mono ?_;rintro e w' ⟨rfl,rfl⟩;go_wp2
  go_ret
  exact⟨rfl,A.o,uur _ _⟩
 .obtain ⟨i,rfl⟩:=Int.eq_ofNat_of_zero_le (show 0<=slot by omega);have D:i<l.length:=oM;have E:l.getD i 0=l[i]:=by simp[D]
  by_cases h1:stateB j=false
  .have n:turnCode l i j=1:=by simp only[turnCode,if_neg q,if_pos h1]
   have p:turnList l i j=l:=by simp[turnList,n]
   rw[n,p];have F:=qqh h1;clear h n p q E h1;go_enter func187,ntmps187
   go_wp2_with fail
   refine(qP A.o i D).mono ?_;rintro e w' ⟨rfl,rfl⟩;go_wp2_with fail
   refine(yH j _).mono ?_;rintro e w' ⟨rfl,rfl⟩;rw[F.o];go_wp2
   go_ret
   exact⟨rfl,A.o,uur _ _⟩
  .have G:stateB j=true:=by simpa using h1
   by_cases h2:mayB l[i] j=false
   .have n:turnCode l i j=16:=by simp only[turnCode,if_neg q,if_neg h1,qxs,E,if_pos h2]
    have p:turnList l i j=l:=by simp[turnList,n]
    rw[n,p];have F:=qqh G;have H:=qqh h2;clear h n p q E h1 G h2;go_enter func187,ntmps187
    go_wp2_with fail
    refine(qP A.o i D).mono ?_;rintro e w' ⟨rfl,rfl⟩;go_wp2_with fail
    refine(yH j _).mono ?_;rintro e w' ⟨rfl,rfl⟩;rw[F.o];go_wp2_with fail
    refine(UD _ _ _ K.o).mono ?_;rintro e w' ⟨rfl,rfl⟩;rw[H.o];go_wp2
    go_ret
    exact⟨rfl,A.o,uur _ _⟩
   .have L:mayB l[i] j=true:=by simpa using h2
    have n:turnCode l i j=0:=by simp only[turnCode,if_neg q,if_neg h1,qxs,E,if_neg h2]
    have p:turnList l i j=l.set i j:=by simp only[turnList,n,if_true,qxs]
    rw[n,p];have F:=qqh G;have H:=qqh L;have R:=za h.str 0;simp at R;have U:=h.le;obtain⟨g,V,W,rfl,X,Y⟩:=h.at D;have M:=qqh (A.o.set i D j);clear h n p q E h1 G h2 L;go_enter func187,ntmps187
    go_wp2_with fail
    refine(qP A.o i D).mono ?_;rintro e w' ⟨rfl,rfl⟩;go_wp2_with fail
    refine(yH j _).mono ?_;rintro e w' ⟨rfl,rfl⟩;rw[F.o];go_wp2_with fail
    refine(UD _ _ _ K.o).mono ?_;rintro e w' ⟨rfl,rfl⟩;rw[H.o];go_wp2
    go_ret
    exact⟨rfl,M.o.1,M.o.2⟩
end
def free(l:List Int):Nat:=l.findIdx (·==0)
theorem AL(l:List Int):free l<=l.length:=List.findIdx_le_length
theorem Sc(j:k<=free l)(n:k<l.length)(h:l[k]=0):free l=k:=by
 rcases Nat.lt_or_ge k (free l)with hlt|hge
 .have:=List.not_of_lt_findIdx hlt;simp[h]at this
 .omega
theorem TP(h:k<=free l)(q:k<l.length)(j:l[k]≠0):k+1<=free l:=by
 rcases Nat.lt_or_ge k (free l)with hlt|hge
 .exact hlt
 .exfalso;have n:free l=k:=oM;have p:l.findIdx (·==0)<l.length:=by show free l<_;omega
  have h1:=List.findIdx_getElem (w:=p);have h2:l[k]==0:=by
   have:l.findIdx (·==0)=k:=n;simp only[this]at h1;exact h1
  exact j (by simpa using h2)
def allocVal(l:List Int):Int:=if free l<l.length then free l else 0
def allocCode(l:List Int):Int:=if free l<l.length then 0 else 17
def allocList(l:List Int):List Int:=l.set (free l) 1
theorem TQ(n:Nat):madeCells #[Value.int .i64 0] (n*1)=(ints (List.replicate n 0)).toArray:=by
 apply Array.ext
 .simp [size_madeCells]
 .intro i h1 h2;have:i%1=0:=Nat.mod_one i;simp[madeCells,ints,this]
theorem zbY:(prog.info? 3).map (fun i=>(i.zero,i.size,i.bytes))=some (some (.int .i64 0),1,8):=kR
abbrev TS:TypeId:=292
theorem AM(n:Nat)(w:World)(h1:1<=n)(h2:n<=1024):
  Calls prog 109 #[.int .i64 n] w fun e w'=>e=.returned (.tuple #[uD (w.heap.size+1),.int .i64 0])/\
   SlotsAt TS w' (w.heap.size+1) (.slice (some ⟨w.heap.size,0,none⟩) n n) (List.replicate n 0)/\Below w.heap.size w w'/\w'.heap.size=w.heap.size+2:=by
 obtain⟨A,j,p,q,hz2⟩:=qYu zbY;have F:∀w:World,(Instr.makeSlice 77 (.int .i64 n) (.int .i64 n)).run prog w=.ok (.slice (some ⟨w.heap.size,0,none⟩) n n) (w.alloc (.cells (ints (List.replicate n 0)).toArray 3)):=by
  intro w;have:=run_make (P:=prog) w 77 3 A (.int .i64 0) underlying77 j p .i64 .i64 n n oM oM jm oM;rw[this];simp only[qxs,q,Value.cells];rw[TQ]
 have G:¬(n:Int)<1:=oM;have H:¬1024<(n:Int):=oM;clear j p q hz2;go_enter func109,ntmps109
 go_wp2
 go_ret2
 have D:(w.alloc (.cells (ints (List.replicate n 0)).toArray 3)).heap[w.heap.size]?=some (.cells (ints (List.replicate n 0)).toArray 3):=zc w _ rfl;refine⟨rfl,⟨zc _ _ oe,?_,by simp[Value.ownBlock],by simpa using h2⟩,((qxl _ _).alloc (qXp _) _).alloc oe _,oe⟩;refine⟨oe,.inr ⟨w.heap.size,0,n,(ints (List.replicate n 0)).toArray,oe,?_,oe,by unfold maxLen;omega,oe,?_⟩⟩
 .rw [qxk _ _ _ oe];exact D
 .intro J u E;simpa using E
section
variable{w:World}{b:Nat}{v:Value}{l:List Int}
theorem TR(h:SlotsAt TS w b v l):
  Calls prog 388 #[uD b] w fun e w'=>e=.returned (.tuple #[.int .i64 (allocVal l),.int .i64 (allocCode l)])/\
   SlotsAt TS w' b v (allocList l)/\Upd (ownS v) w w':=by
 have H:=za h.str 0;simp at H;have O:=h.le;have F:=qqh h;obtain⟨R,c,rfl⟩:=h.sl.rd.jW;clear h;go_enter func388,ntmps388
 go_wp2
 go_step3
 go_wp2
 go_step3
 go_wp2
 go_loopg[4,5,15] (l.length+1) (fun g J ev i wr=>∃k:Nat,k+g=l.length+1/\k<=l.length/\J=.int .i64 0/\ev=.int .i64 17/\i=.int .i64 k/\k<=free l/\wr=w)
 case atStart=>exact⟨0,oM,oM,rfl,rfl,rfl,qXz _,rfl⟩
 case round=>
  obtain⟨k,U,V,rfl,rfl,rfl,p,rfl⟩:=hrel;by_cases hlt:k<l.length
  .obtain ⟨g,W,X,K,Y,Z⟩:=F.o.at hlt;cases K;by_cases q:l[k]=0
   .have j:=Sc p hlt q;have L:(l[k]==0)=true:=by simpa using q
    have A:allocVal l=k:=by simp[allocVal,j,hlt]
    have D:allocCode l=0:=by simp[allocCode,j,hlt]
    have E:allocList l=l.set k 1:=by simp[allocList,j]
    have G:=qqh (F.o.set k hlt 1);have n:Hid (allocVal l=k/\allocCode l=0/\allocList l=l.set k 1):=⟨A,D,E⟩
    clear p j q A D E;go_wp2
    rw[qxq];go_ret2
    exact⟨by rw[n.o.1,n.o.2.1];rfl,by rw[n.o.2.2];exact G.o.1,G.o.2⟩
   .have L:(l[k]==0)=false:=by simpa using q
    have M:=TP p hlt q;clear p q;go_wp2
    go_roundg (gk-1)
    case measure=>omega
    case rel=>exact⟨k+1,oM,oM,rfl,rfl,by go_num,M,rfl⟩
  .obtain rfl:k=l.length:=oM;have j:free l=l.length:=Nat.le_antisymm (AL l) p;have A:allocVal l=0:=by simp[allocVal,j]
   have D:allocCode l=17:=by simp[allocCode,j]
   have E:allocList l=l:=by simp only[allocList,j];exact List.set_eq_of_length_le (qXp _)
   have n:Hid (allocVal l=0/\allocCode l=17/\allocList l=l):=⟨A,D,E⟩
   clear p j A D E;go_wp2
   rw[qxq];go_ret2
   exact⟨by rw[n.o.1,n.o.2.1];rfl,by rw[n.o.2.2];exact F.o,uur _ _⟩
theorem TT(h:Rd w 1 v l.length (ints l))(V:l.length<=4096):
  Calls prog 267 #[v] w fun e w'=>∃j,e=.returned j/\Sl w' 3 1 j l.length (ints l)/\From w.heap.size j/\Below w.heap.size w w':=by
 obtain⟨q,A,D,E,F⟩:=qYu zbY;have G:=qqh h;obtain⟨p,W,H,c,rfl,n,_⟩:=h;have X:=fun(w:World) (a:Option Addr) (J c:Nat)=>Lib.run_eql_slice_nil (P:=prog) w 77 3 a J c 0 0 underlying77;cases H with
 |none=>
  have K:=n rfl;obtain rfl:l=[]:=qyb K;clear n p;go_enter func267,ntmps267
  go_wp2
  go_ret
  exact⟨_,rfl,by simpa using Sl.nil _ _ _,From.nil _ _ _,qxl _ _⟩
 |some a=>
  clear n p;have L:Sl (w.alloc (.cells #[] 3)) 3 1 (.slice (some ⟨w.heap.size,0,none⟩) 0 0) 0 []:=
   ⟨oe,.inr ⟨w.heap.size,0,0,#[],rfl,zc _ _ rfl,oe,by simp[maxLen],oe,oe⟩⟩
  have M:Hid (Rd (w.alloc (.cells #[] 3)) 1 (.slice (some a) l.length c) l.length (ints l)):=G.o.keep ((uur (fun _=>False) _).alloc _) (fun _ _ h=>h);go_enter func267,ntmps267
  go_wp2_with (at_builtin;refine zF rfl _ _ 77 rfl q (.int .i64 0) 8 underlying77 A D E F rfl de rfl L _ l.length (ints l) rfl M.o (by simp[ints,Value.oneCell']) oh oM ?_)
  intro j Y O R U;go_wp2
  go_ret
  refine⟨_,rfl,by simpa using O,?_,?_⟩
  .exact U.ge oe oE
  .refine zj ((qxl _ _).alloc (qXp _) _) R (qXp _) oy
end
open Go Go.RowKit Go.Shelf Tryz
attribute [local go_sem] qYb
def xC(l:List Int)(st:Int)(k:Nat):List Nat:=(List.range k).filter fun i=>l[i]?.getD 0==st
abbrev pos(l:List Int)(st:Int):List Nat:=xC l st l.length
theorem vE{h:Int}(j:(l[k]?.getD 0==h)=true):xC l h (k+1)=xC l h k++[k]:=by simp[xC,List.range_succ,j]
theorem qQ{h:Int}(j:(l[k]?.getD 0==h)=false):xC l h (k+1)=xC l h k:=by simp[xC,List.range_succ,j]
theorem TU(l:List Int)(h:Int)(k:Nat):(xC l h k).length<=k:=by have:=List.length_filter_le (fun i=>l[i]?.getD 0==h) (List.range k);simpa[xC]using this
theorem uE(l:List Int)(j:Int){m:Nat}(h:k<=m):xC l j k<+:xC l j m:=by
 induction m with
 |zero=>
  obtain rfl:k=0:=oM;exact List.prefix_rfl
 |succ m p=>
  by_cases q:k=m+1
  .subst q;exact List.prefix_rfl
  .refine (p oM).trans ?_;by_cases n:(l[m]?.getD 0==j)=true
   .rw [vE n];exact List.prefix_append _ _
   .rw [qQ (by simpa using n)];exact List.prefix_rfl
theorem ZJ(l:List Int)(h:Int){m:Nat}(n:k<m)(j:(l[k]?.getD 0==h)=true):(xC l h k).length<(xC l h m).length:=by
 have h1:=(uE l h (show k+1<=m by omega)).length_le;rw[vE j]at h1;simp at h1;omega
theorem zcq(F:Fence)(n:Nat)(U:F.fn 268)(V:F.round=none)(ai:1<=n)(S:Nat->Prop)(l L A b off cap:Nat)(zs:List Int)(j:Int)(aj:zs.length<=1024)(X:¬S b)(Y:¬S A)(D M:List Nat->World->Prop)
  (Z:∀p (x:Nat) W,D p W->p.length<(pos zs j).length->YieldAt F (n-1) prog l #[.int .i64 (x:Int)] W fun e q=>
   (e=.returned (.bool true)/\D (p++[x]) q/\Upd S W q)\/(e=.returned (.bool false)/\M (p++[x]) q))
  (W:World) (a6:b<W.heap.size) (a7:A<W.heap.size) (ak:W.cell? ⟨L,0,none⟩=some (.slice (some ⟨b,off,none⟩) zs.length cap)) (a8:W.cell? ⟨A,0,none⟩=some (.int .i64 j))
  (aa:∀H,H<zs.length->W.cell? ⟨b,off+H,none⟩=some (.int .i64 (zs[H]?.getD 0))) (ab:D [] W):
  CallsIn F n prog 268 #[.func (.yield l) #[] #[],.pointer (some ⟨L,0,none⟩),.pointer (some ⟨A,0,none⟩)] W fun e q=>(∃v,e=.returned v)/\
   ((∃O,O=pos zs j/\D O q)\/(∃p,p<+:pos zs j/\M p q)):=by
 refine callsIn_of_wp func268 rfl U ?_ V;simp only[ntmps268,qXh,qyz,qzc,Nat.reduceAdd,Nat.reduceSub,qxi,qxj,qXb,qxx,qzu,qxy]
 gi_wp2
 gi_loopw [8] (fun i wr=>∃k:Nat,k<=zs.length/\i=.int .i64 k/\D (xC zs j k) wr/\Upd S W wr)
  (fun i _=>zs.length-(intOf i).toNat)
 case atStart=>exact⟨0,qXz _,rfl,ab,uur _ _⟩
 case round=>
  obtain⟨k,am,rfl,J,G⟩:=hrel;have an:wr.cell? ⟨A,0,none⟩=some (.int .i64 j):=(G.cellAt a7 Y).trans a8;by_cases hlt:k<zs.length
  .have ao:wr.cell? ⟨b,off+k,none⟩=some (.int .i64 (zs[k]?.getD 0)):=(G.cellAt a6 X).trans (aa k hlt);have R:Hid (zs[k]?.getD 0=zs[k]):=by show _=_;simp[hlt]
   by_cases K:(zs[k]==j)=true
   .have E:Hid ((zs[k]?.getD 0==j)=true):=by rw[R.out];exact K
    obtain⟨ap,aq,assign,body,hy,ad⟩:=Z _ k wr J (ZJ zs j hlt E.out)
    gi_wp2
    refine ad.mono ?_;rintro e ar (⟨rfl,ae,af⟩|⟨rfl,ag⟩)
    .gi_wp2
     go_roundw
     case rel=>exact⟨k+1,oM,oe,by rw[vE E.out];exact ae,G.trans af⟩
     case measure=>simp[intOf];omega
    .gi_wp2
     refine qYq (qYw rfl _ _ _) rfl ?_;exact⟨⟨_,rfl⟩,.inr ⟨_,by rw[<-vE E.out];exact uE zs j oM,ag⟩⟩
   .have ah:(zs[k]==j)=false:=by simpa using K
    have E:Hid ((zs[k]?.getD 0==j)=false):=by rw[R.out];exact ah
    clear K
    gi_wp2
    refine⟨fun _ h=>jS,?_⟩
    gi_wp2
    go_roundw
    case rel=>exact⟨k+1,oM,oe,by rw[qQ E.out];exact J,G⟩
    case measure=>simp[intOf];omega
  .obtain rfl:k=zs.length:=oM
   gi_wp2
   go_end0
   exact⟨⟨_,rfl⟩,.inl ⟨_,rfl,J⟩⟩
theorem sR(F:Fence)(n:Nat)(H:F.fn 268)(J:F.round=none)(K:1<=n)(S:Nat->Prop)(q h b off cap:Nat)(zs:List Int)(A:Int)(w:World)(L:zs.length<=1024)
  (E:b<w.heap.size) (G:h<w.heap.size) (M:q<w.heap.size) (O:¬S b) (P:¬S h)
  (R:w.cell? ⟨q,0,none⟩=some (.slice (some ⟨b,off,none⟩) zs.length cap)) (U:w.cell? ⟨h,0,none⟩=some (.int .i64 A))
  (V:∀j,j<zs.length->w.cell? ⟨b,off+j,none⟩=some (.int .i64 (zs[j]?.getD 0))):
  SeqStopsK F n prog 268 #[.pointer (some ⟨q,0,none⟩),.pointer (some ⟨h,0,none⟩)] (fun x:Nat=> #[Value.int .i64 (x:Int)]) (Upd S) (fun W=>W=pos zs A) (fun X=>X<+:pos zs A) (pos zs A).length w:=fun l Y Z a6 D _ _ a7 a8=>
 zcq F n H J K S l q h b off cap zs A L O P Y Z a7 a6 (qXs E D.size) (qXs G D.size) ((D.cell (p:=⟨q,0,none⟩) M).trans R) ((D.cell (p:=⟨h,0,none⟩) G).trans U) (fun j aa=>(D.cell (p:=⟨b,off+j,none⟩) E).trans (V j aa)) a8
theorem Xe{h B:World}{j:Option Nat}(n:Boxed h b t v)(q:h.grownBy B j)(A:∀r,j=some r->∃o:Obj,h.heap[r]?=some o/\o.isCells=false):Boxed B b t v:=
 n.kept q (fun e=>by
  obtain⟨o,p,D⟩:=A _ e.symm;rw[show h.heap[b]?=_ from n]at p;cases p;simp[Obj.isCells]at D)
theorem uf{h B C:World}(j:Upd S h B)(n:Upd S B C):Upd S h C:=j.trans n
theorem ww{M:Nat}(n:∀j,M<=j->S j)(W:World)(l:Nat)(o p:Obj)(A:M<=l)(_:W.heap[l]?=some o)(_:o.isCells=false)(_:o.isWalk=false):Upd S W (W.putObj l p):=
 ⟨rfl,rfl,rfl,by simp[World.putObj],fun k _ q=>by
  have:k≠l:=fun e=>q (n k oM);simp only[World.putObj];rw[qxg (fun e=>this e.symm)]⟩
theorem UE(h:SlotsAt 292 w b v l)(q:Int)(M:0<l.length):
  Calls prog 206 #[uD b,.int .i64 q] w fun e w'=>∃E A g j D,e=.returned (.func (.func 268) #[] #[.pointer (some ⟨E,0,none⟩),.pointer (some ⟨A,0,none⟩)])/\
   (w.heap.size<=A/\w.heap.size<=g)/\E<w'.heap.size/\A<w'.heap.size/\g<w'.heap.size/\w'.cell? ⟨E,0,none⟩=some (.slice (some ⟨g,j,none⟩) l.length D)/\w'.cell? ⟨A,0,none⟩=some (.int .i64 q)/\
   (∀n,n<l.length->w'.cell? ⟨g,j+n,none⟩=some (.int .i64 (l[n]?.getD 0)))/\Below w.heap.size w w':=by
 have J:Upd (fun _=>False) w (w.alloc (.cells #[.int .i64 q] 3)):=(uur _ _).alloc _;have F:=h.new J;have O:=za F.str 0;simp at O;have R:=qqh F.sl.rd;have Z:=h.le;clear h F;go_enter func206,ntmps206
 go_wp2_with fail
 refine(TT R.o oM).mono ?_;rintro e w1 ⟨a6,rfl,U,V,G⟩;obtain⟨g,j,D,a7,rfl,K,_,W⟩:=U.at M;have hlt:=zd K;go_wp2
 go_ret
 have X:=G.size;simp at X;have Y:w1.cell? ⟨w.heap.size,0,none⟩=some (.int .i64 q):=(G.cell (p:=⟨w.heap.size,0,none⟩) oe).trans (by rw[za (zc _ _ rfl)];simp);have H:=(uur (fun _=>False) w1).alloc (.cells #[.slice (some ⟨g,j,none⟩) l.length D] 77);refine⟨w1.heap.size,w.heap.size,g,j,D,rfl,⟨qXp _,by have:=V g rfl;simp at this;omega⟩,oe,by simp;omega,by simp;omega,?_,?_,fun n L=>?_,?_⟩
 .rw [za (zc _ _ rfl)];simp
 .exact (H.cellAt oM id).trans Y
 .refine (H.cellAt hlt id).trans ?_;rw[za K,W n _ (yp L)];simp[L]
 .exact zj (zj (qxl _ w) (Upd.new J (uuo (S:=fun _=>False) G) (fun _ _ h=>h)) (qXp _) (fun _ h=>h.elim)) H (qXp _) (fun _ h=>h.elim)
theorem TV(h:SlotsAt 292 w b v l)(q:Int)(V:0<l.length):
  Calls prog 389 #[uD b,.int .i64 q] w fun e w'=>e=.returned (.int .i64 (pos l q).length)/\Below w.heap.size w w':=by
 have h1:=h.new ((uur (fun _=>False) w).alloc (.cells #[.int .i64 0] 3));have W:Hid ((pos l q).length<=1024):=by have h1:=TU l q l.length;have h2:=h.le;exact qXr h1 h2
 have X:=h.le;clear h;refine(callsIn_wide (n:=3)).1 ?_;refine callsIn_of_wp_marks func389 rfl trivial ?_ rfl;simp only[ntmps389,qXh,qyz,qzc,Nat.reduceAdd,Nat.reduceSub,qxi,qxj,qXb,qxx,qzu,qxy]
 gi_wp2_with (refine⟨trivial,?_⟩;gi_at_call 206;refine(callsIn_wide.2 (UE h1 q V)).mono ?_;rintro e w1 ⟨F,G,g,Y,Z,rfl,hge,a6,a7,H,a8,aa,ab,J⟩)
 have ad:Boxed (w.alloc (.cells #[.int .i64 0] 3)) w.heap.size 3 (.int .i64 0):=Boxed.new w _ _;have ae:Boxed w1 w.heap.size 3 (.int .i64 0):=(J.block _ oe).trans ad;have af:=J.size;simp at af;have ag:Below w.heap.size w w1:=zj ((qxl _ w).alloc (qXp _) _) (uuo (S:=fun _=>False) J) (qXp _) (fun _ h=>h.elim);refine wpIn_rangeFunc_ownF rfl oM (gf:=268) (lb:= #[.pointer (some ⟨F,0,none⟩),.pointer (some ⟨G,0,none⟩)]) rfl trivial (enters_of func268 kR rfl)
  (sR Fence.wide _ trivial rfl oM (fun K=>w1.heap.size<=K\/K=w.heap.size) F G g Y Z l q w1 X H a7 a6 (by simp at hge;omega) (by simp at hge;omega) a8 aa ab) uf (fun j l o ah ai=>ww (M:=w1.heap.size) (fun K h=> .inl h) j l o ah ai) (qxl _ _) (fun _=>rfl)
  (fun A j=>Boxed j w.heap.size 3 (.int .i64 A.length)/\Below w.heap.size w j)
  (fun _ _ _=>False)
  (OwnFrom.and (Own.from (I:=fun(s:List Nat) R=>Boxed R w.heap.size 3 (.int .i64 s.length)) (fun s R B an L H aj=>Xe L H aj) _) (ownFrom_below (qXp _) oM))
  (fun _ _ _ _ _ L _ _=>L)
  ⟨ae,ag⟩
  (fun x=>{tmps:= #[uD b,Value.int IntKind.i64 q,undef,undef,Value.int IntKind.i64 0,
     Value.pointer (some {block:=w.heap.size,off:=0}),uD b,Value.int IntKind.i64 q,
     Value.func (Fn.func 268) #[]
      #[Value.pointer (some {block:=F,off:=0}),Value.pointer (some {block:=G,off:=0})],
     .int .i64 x,undef,undef,undef],defers:=[]}) ?assign ?body ?done ?stop
 case assign=>
  intro l x j ao E
  gi_wp2
  simpa using E
 case body=>
  rintro l A x j ⟨D,O⟩ hlt;have ak:=D.cell;have ap:=D.frozen;have aq:(A.length:Int)<1024:=by have:=W.out;omega
  gi_wp2
  rw[show((A.length:Int)+1)=((A++[x]).length:Int) by simp];exact⟨KeepsOthers.setCell _ _ _,(zi j _ _ _).mono (fun k _ am=> .inr am),D.set _,O.setCell (p:=⟨w.heap.size,0,none⟩) (qXp _) _⟩
 case done=>
  rintro U ar j au rfl ⟨D,O⟩ E;have ak:=D.cell
  gi_wp2
  refine⟨oe,.inl ⟨_,_,rfl,run_takeDeferred E,?_⟩⟩;exact⟨_,results_tmp rfl _ _ _,rfl,O.trans (belowK_b (w:=w) (qXp _) j U _ _ oM E rfl rfl)⟩
 case stop=>
  rintro U c A j _ _ h _;exact h.elim
attribute [local go_sem] qYb
end
section
open Go Go.RowKit Tryz
theorem Xf(n j:TypeId)(k:Nat)(G:0<k)(q:prog.underlying n=some (.slice j))(A:∃i z,prog.info? j=some i/\i.zero=some z/\z.cells.size=k/\i.size=k)(v:Value)(D:v.cells.size=k)(H:k<=1000)(w:World):
  (Instr.buildSlice n 1 #[(0,v)]).run prog w=.ok (.slice (some ⟨w.heap.size,0,none⟩) 1 1) (w.alloc (.cells v.cells j)):=by
 obtain⟨i,z,E,F,J,hsz⟩:=A;refine run_buildSlice w _ _ 1 _ _ i z q E F (by rw[hsz];omega) (by rw[hsz];omega) ?_;obtain⟨a1,a2⟩:=yQ 0 v.cells ((Array.range (1*i.size)).map (z.cells[·%z.cells.size]!));rw[show(#[(0,v)]:Array (Nat×Value)).toList=[(0,v)]from rfl];rw[xw _ _ 0 0 k v _ jD D jD];show some _=_
 congr 1
 apply qxd
 intro p;rw[a2 p];by_cases K:p<k
 .rw [if_pos ⟨oM,oM,by simp[hsz];omega⟩];rfl
 .rw [if_neg oM,qxf jQ,qxf oM]
theorem yD{ops:Array Oper}{rest:List Oper}{op:Oper}{a:Act}{Q:Exit->Act->World->Prop}(n:op.guard=none)(j h:TypeId)(p:Operand)(q:op.op=.buildSlice j 1 #[(0,p)])(k:Nat)(A:0<k)
  (D:prog.underlying j=some (.slice h)) (E:∃i z,prog.info? h=some i/\i.zero=some z/\z.cells.size=k/\i.size=k) (F:k<=1000) (cs:List Value) (G:a.eval p=.agg cs.toArray) (H:cs.length=k)
  (J:wpList prog ops Q rest (a.put op.dst (.slice (some ⟨w.heap.size,0,none⟩) 1 1)) (w.alloc (.cells cs.toArray h))):wpList prog ops Q (op::rest) a w:=by
 refine qZb n fun M K=>?_;unfold Oper.wp;have L:=Xf j h k A D E (.agg cs.toArray) (by simpa[Value.cells]using H) F w;simp only[execOp,q,qzk,qzh,qzj,G,qYg,L,qYf];exact K _ _ J
theorem zT{ops:Array Oper}{rest:List Oper}{o:Oper}{a:Act}{Q:Exit->Act->World->Prop}(h:o.guard=none)(t:TypeId)(j:o.op=.alloc t)(cs:Array Value)
  (n:∀w:World,(Instr.alloc t true (.tuple #[])).run prog w=.ok (.pointer (some ⟨w.heap.size,0,none⟩)) (w.alloc (.cells cs t)))
  (p:wpList prog ops Q rest (a.put o.dst (.pointer (some ⟨w.heap.size,0,none⟩))) (w.alloc (.cells cs t))):wpList prog ops Q (o::rest) a w:=by
 refine qZb h fun A q=>?_;unfold Oper.wp;simp only[execOp,j,qYg,n,qYf];exact q _ _ p
open Go Go.RowKit Go.Maps Tryz
theorem MapAt.look1(h:MapAt w mb N f)(h1: -9223372036854775808<=x)(h2:x<9223372036854775808):
  (Instr.lookup 145 (.map (some mb)) (.int .i64 x) false).run prog w=.ok (.int .i64 (((f x).getD 0:Nat):Int)) w:=by
 obtain⟨q,A,n⟩:=h;obtain⟨v,ps,E,F⟩:=A.lookup yB underlying145 (Sb w) (plainElem_int underlying3 de) (qm h1 h2);obtain⟨c,rfl,j,H⟩:=plainElem_int_inv underlying3 F;simp only[qYe]at j;rw[E];exact Zcg04
end
end Go.Proofs.YtbnpkobbnjihjaaGreatDoor
