/- The plain law -/
import Derived.Test.YtpejdgiccaijfaaGreatDoorG01
import Derived.RangeFuncNested
import Derived.RangeFuncBound
import Derived.RangeFuncCalls
import Derived.RangeFuncLeaves
import Derived.RangeFuncBox
import Derived.Shelf.Abstract
import Derived.OwnWalkIn
import Derived.TacticsInMore
import Derived.LoopNIn
import Derived.LoopIn
import Derived.Maps.AppendAt
set_option maxHeartbeats 2000000
set_option maxRecDepth 100000
namespace Go.Proofs.YtpejdgiccaijfaaGreatDoor
open Go Go.RowKit Tryz
variable{k b:Nat}{l:List Int}{s:Int}{w:World}{ps:List (Int×Bool)}{S:Nat->Prop}{v:Value}
def yP(f:Int->Option Nat)(s:Int)(o:Option Nat):Int->Option Nat:=fun x=>if x=s then o else f x
def atOf(ps:List (Int×Bool))(s:Int):Option Nat:=if s<0 then none else ps.findIdx? (fun p=>p.1==s)
structure Good(ps:List (Int×Bool))(slots:Nat):Prop where
 each:∀k (h:k<ps.length),ps[k]=(-1,false)\/(0<=ps[k].1/\ps[k].1<slots)
 inj:∀i j (hi:i<ps.length) (hj:j<ps.length),0<=ps[i].1->ps[i].1=ps[j].1->i=j
theorem yT(h:atOf ps s=some k):0<=s/\∃h:k<ps.length,ps[k].1=s:=by
 unfold atOf at h;split at h
 .cases h
 .rw [List.findIdx?_eq_some_iff_getElem]at h;obtain⟨a,h1,_⟩:=h;exact⟨oM,a,by simpa using h1⟩
theorem Zx(h:atOf ps s=none)(j:0<=s)(a:k<ps.length):ps[k].1≠s:=by
 unfold atOf at h;rw[if_neg oM,List.findIdx?_eq_none_iff]at h;have:=h ps[k] (qyv a);simpa using this
theorem Good.at{slots:Nat}(n:Good ps slots)(a:k<ps.length)(h:0<=ps[k].1):atOf ps ps[k].1=some k:=by
 cases j:atOf ps ps[k].1 with
 |none=>exact absurd rfl (Zx j h a)
 |some p=>
  obtain⟨_,q,A⟩:=yT j;rw[n.inj k p a q h A.symm]
theorem Good.iff{slots:Nat}(a:Good ps slots):atOf ps s=some k↔0<=s/\∃a:k<ps.length,ps[k].1=s:=
 ⟨yT,fun⟨h,j,n⟩=>by subst n;exact a.at j h⟩
theorem Yg{j:Type}{o p:Option j}(h:∀a,o=some a↔p=some a):o=p:=by
 cases o with
 |none=>cases p with
  |none=>rfl
  |some b=>exact absurd ((h b).2 rfl) oe
 |some a=>exact((h a).1 rfl).symm
theorem Good.start(n slots:Nat):Good (List.replicate n (-1,false)) slots:=
 ⟨fun k h=> .inl oe,fun i j p q a _=>by simp at a⟩
theorem Vn(n:Nat):atOf (List.replicate n (-1,false))=fun _=>none:=by
 funext s
 cases a:atOf (List.replicate n (-1,false)) s with
 |none=>rfl
 |some k=>
  obtain⟨j,p,h⟩:=yT a;simp at h;omega
section
variable{ps:List (Int×Bool)}{slots k:Nat}
theorem Good.drop(h:Good ps slots)(k:Nat):Good (ps.set k (-1,false)) slots:=by
 refine⟨fun i hi=>?_,fun i n hi hj j a=>?_⟩
 .rw [qyx];split
  .exact .inl rfl
  .exact h.each i oz
 .rw [qyx]at j a;rw[qyx]at a;by_cases h1:k=i
  .simp [h1]at j
  .by_cases h2:k=n
   .rw [if_neg h1,if_pos h2]at a;rw[if_neg h1]at j;simp at a;omega
   .rw [if_neg h1,if_neg h2]at a;rw[if_neg h1]at j;exact h.inj i n oz oC j a
theorem Good.atOf_drop(j:Good ps slots)(D:k<ps.length):atOf (ps.set k (-1,false))=yP (atOf ps) ps[k].1 none:=by
 funext s
 refine Yg fun q=>?_;rw[(j.drop k).iff];unfold yP;constructor
 .rintro ⟨h,n,a⟩;rw[qyx]at a;split at a
  .simp at a;omega
  .rename_i p
   have A:q<ps.length:=by simpa using n
   subst a;split
   .rename_i e
    exact absurd (j.inj q k A D h e) (fun e=>p e.symm)
   .exact j.at A h
 .intro e;split at e
  .cases e
  .rename_i p
   obtain⟨h,n,a⟩:=yT e;refine⟨h,by simpa using n,?_⟩;rw[qyx];split
   .rename_i E
    subst E;exact absurd a.symm p
   .exact a
def mayPut(ps:List (Int×Bool))(k:Nat)(s:Int):Prop:=atOf ps s=none\/atOf ps s=some k
theorem tP(n:Good ps slots)(a:mayPut ps k s)(h:0<=s){i:Nat}(j:i<ps.length)(p:i≠k):ps[i].1≠s:=by
 rcases a with a|a
 .exact Zx a h j
 .intro e;subst e;have:=n.at j h;rw[this]at a;exact p (by injection a)
theorem Good.put(h:Good ps slots)(_:k<ps.length)(d:Bool)(q:0<=s)(h1:s<slots)(A:mayPut ps k s):Good (ps.set k (s,d)) slots:=by
 refine⟨fun i hi=>?_,fun i p hi F h2 a=>?_⟩
 .rw [qyx];split
  .exact .inr ⟨q,h1⟩
  .exact h.each i oz
 .have D:i<ps.length:=by simpa using hi
  have E:p<ps.length:=by simpa using F
  rw[qyx]at h2 a;rw[qyx]at a;by_cases j:k=i
  .by_cases n:k=p
   .exact j.symm.trans n
   .rw [if_pos j,if_neg n]at a;exact absurd a.symm (tP h A q E (fun e=>n e.symm))
  .by_cases n:k=p
   .rw [if_neg j,if_pos n]at a;exact absurd a (tP h A q D (fun e=>j e.symm))
   .rw [if_neg j,if_neg n]at a;rw[if_neg j]at h2;exact h.inj i p D E h2 a
theorem Good.atOf_put(h:Good ps slots)(j:k<ps.length)(d:Bool)(E:0<=s)(h1:s<slots)(F:mayPut ps k s):atOf (ps.set k (s,d))=yP (yP (atOf ps) ps[k].1 none) s (some k):=by
 funext x
 refine Yg fun n=>?_;rw[(h.put j d E h1 F).iff];simp only[yP];constructor
 .rintro ⟨hx,p,a⟩;have q:n<ps.length:=by simpa using p
  rw[qyx]at a;by_cases e:k=n
  .rw [if_pos e]at a;simp at a;rw[if_pos a.symm,e]
  .rw [if_neg e]at a;subst a;rw[if_neg (tP h F E q (fun A=>e A.symm))];split
   .rename_i G
    exact absurd (h.inj n k q j hx G) (fun A=>e A.symm)
   .exact h.at q hx
 .intro e;by_cases D:x=s
  .rw [if_pos D]at e;cases e;refine⟨oM,by simpa using j,?_⟩;rw[qyx,if_pos rfl];exact D.symm
  .rw [if_neg D]at e;split at e
   .cases e
   .rename_i H
    obtain⟨hx,p,a⟩:=yT e;refine⟨hx,by simpa using p,?_⟩;rw[qyx];split
    .rename_i J
     subst J;exact absurd a.symm H
    .exact a
theorem Good.clean(h:Good ps slots)(p:k<ps.length)(j:0<=ps[k].1):Good (ps.set k (ps[k].1,false)) slots:=by
 refine⟨fun i hi=>?_,fun i q hi hj h2 a=>?_⟩
 .rw [qyx];split
  .rcases h.each k p with e|e
   .rw [e]at j;simp at j
   .exact .inr e
  .exact h.each i oz
 .have n:∀(x:Nat) (hx:x<(ps.set k (ps[k].1,false)).length),((ps.set k (ps[k].1,false))[x]).1=(ps[x]'(by simpa using hx)).1:=by
   intro x hx;rw[qyx];split
   .rename_i e;subst e;rfl
   .rfl
  rw[n]at h2 a;rw[n]at a;exact h.inj i q oz oC h2 a
theorem Good.atOf_clean(j:Good ps slots)(p:k<ps.length)(q:0<=ps[k].1):atOf (ps.set k (ps[k].1,false))=atOf ps:=by
 funext x
 refine Yg fun A=>?_;rw[(j.clean p q).iff,j.iff];have n:∀(x:Nat) (hx:x<(ps.set k (ps[k].1,false)).length),((ps.set k (ps[k].1,false))[x]).1=(ps[x]'(by simpa using hx)).1:=by
  intro x hx;rw[qyx];split
  .rename_i e;subst e;rfl
  .rfl
 constructor
 .rintro ⟨hx,h,a⟩;rw[n]at a;exact⟨hx,by simpa using h,a⟩
 .rintro ⟨hx,h,a⟩;exact⟨hx,by simpa using h,by rw[n];exact a⟩
end
structure Tur(w:World):Prop where
 c0:w.cell? ⟨1,0,none⟩=some (.int .i64 2)
 c1:w.cell? ⟨1,1,none⟩=some (.int .i64 28)
 c2:w.cell? ⟨1,2,none⟩=some (.int .i64 24)
 c3:w.cell? ⟨1,3,none⟩=some (.int .i64 17)
 c4:w.cell? ⟨1,4,none⟩=some (.int .i64 0)
theorem Tur.lt(h:Tur w):1<w.heap.size:=(zE h.c0).2
theorem Tur.keep{w':World}(a:Tur w)(hu:Upd S w w')(h:¬S 1):Tur w':=
 ⟨(hu.cellAt a.lt h).trans a.c0,(hu.cellAt a.lt h).trans a.c1,(hu.cellAt a.lt h).trans a.c2,(hu.cellAt a.lt h).trans a.c3,(hu.cellAt a.lt h).trans a.c4⟩
def mayB(a b:Int):Bool:=
 if a=0 then b==1 else if a=1 then b==2||b==3||b==4 else if a=2 then b==3||b==4 else if a=3 then b==0||b==4 else false
def stateB(a:Int):Bool:=decide (0<=a)&&decide (a<=4)
theorem yH(a:Int)(w:World):Calls prog 285 #[.int .i64 a] w fun e w'=>e=.returned (.bool (stateB a))/\w'=w:=by
 by_cases h1:0<=a
 .by_cases h2:a<=4
  .go_enter func285,ntmps285
   go_wp2
   go_ret
   exact⟨by simp[stateB,h1,h2],rfl⟩
  .go_enter func285,ntmps285
   go_wp2
   go_ret
   exact⟨by simp[stateB,h1,h2],rfl⟩
 .go_enter func285,ntmps285
  go_wp2
  go_ret
  exact⟨by simp[stateB];omega,rfl⟩
theorem UK(a b:Int)(h:¬(0<=a/\a<=4)\/¬(0<=b/\b<=4)):mayB a b=false:=by
 unfold mayB
 repeat' split
 all_goals first|rfl|(simp;omega)
theorem UL(a b:Int)(w:World)(n:Tur w):Calls prog 286 #[.int .i64 a,.int .i64 b] w fun e w'=>e=.returned (.bool (mayB a b))/\w'=w:=by
 by_cases j:0<=a/\a<=4
 .by_cases p:0<=b/\b<=4
  .obtain ⟨F,c1,c2,G,H⟩:=n;have A:a=0\/a=1\/a=2\/a=3\/a=4:=oM;have D:b=0\/b=1\/b=2\/b=3\/b=4:=oM;clear j p;rcases A with rfl|rfl|rfl|rfl|rfl<;>rcases D with rfl|rfl|rfl|rfl|rfl
   all_goals
    go_enter func286,ntmps286
    go_wp2
    go_ret
    exact⟨rfl,rfl⟩
  .rw [UK a b (.inr p)];have q:stateB a=true:=by simp[stateB,j]
   have E:stateB b=false:=by simp[stateB];omega
   clear n j p;go_enter func286,ntmps286
   go_wp2_with fail
   refine(yH a _).mono ?_;rintro e w' ⟨rfl,rfl⟩;rw[q];go_wp2_with fail
   refine(yH b _).mono ?_;rintro e w' ⟨rfl,rfl⟩;rw[E];go_wp2
   go_ret
   exact⟨rfl,rfl⟩
 .rw [UK a b (.inl j)];have q:stateB a=false:=by simp[stateB];omega
  clear n j;go_enter func286,ntmps286
  go_wp2_with fail
  refine(yH a _).mono ?_;rintro e w' ⟨rfl,rfl⟩;rw[q];go_wp2
  go_ret
  exact⟨rfl,rfl⟩
structure SlotsAt(T:TypeId)(w:World)(b:Nat)(v:Value)(l:List Int):Prop where
 str:w.heap[b]?=some (.cells #[v] T (0,0))
 sl:Sl w 3 1 v l.length (ints l)
 ne:v.ownBlock≠some b
 le:l.length<=1024
abbrev uR(b:Nat):Value:=.pointer (some ⟨b,0,none⟩)
section
variable{T:TypeId}{w w':World}{b:Nat}{v:Value}{l:List Int}
theorem SlotsAt.keep(a:SlotsAt T w b v l)(hu:Upd S w w')(h:¬S b)(hv:∀g,v.ownBlock=some g->¬S g):SlotsAt T w' b v l:=
 ⟨(hu.block b (zd a.str) h).trans a.str,a.sl.keep hu hv,a.ne,a.le⟩
theorem SlotsAt.new(h:SlotsAt T w b v l)(hu:Upd (fun _=>False) w w'):SlotsAt T w' b v l:=h.keep hu id (fun _ _ h=>h)
theorem Sl.set{e:TypeId}{g off n cap:Nat}(h:Sl w e 1 (.slice (some ⟨g,off,none⟩) n cap) n (ints l))(i:Nat)(J:i<n)(x:Int):
  Sl (w.setCell ⟨g,off+i,none⟩ (.int .i64 x)) e 1 (.slice (some ⟨g,off,none⟩) n cap) n (ints (l.set i x)):=by
 obtain⟨A,⟨h1,_⟩|⟨L,M,N,O,h1,D,E,F,G,H⟩⟩:=h
 .cases h1
 .cases h1;refine⟨by simpa using A,.inr ⟨g,off,cap,_,rfl,zh D _ _,E,F,by simpa using G,fun a u j=>?_⟩⟩;have p:a<l.length:=by have:=(qym.1 j).1;simpa using this
  rw[yh (by simpa using p)]at j;cases j;by_cases q:i=a
  .subst q;rw[Array.getElem?_setIfInBounds_self,if_pos oM];simp
  .rw [qxg oM,List.getElem_set_ne q];exact H a _ (yh p)
theorem SlotsAt.set{g off cap:Nat}(a:SlotsAt T w b (.slice (some ⟨g,off,none⟩) l.length cap) l)(i:Nat)(j:i<l.length)(x:Int):
  SlotsAt T (w.setCell ⟨g,off+i,none⟩ (.int .i64 x)) b (.slice (some ⟨g,off,none⟩) l.length cap) (l.set i x)/\Upd (ownS (.slice (some ⟨g,off,none⟩) l.length cap)) w (w.setCell ⟨g,off+i,none⟩ (.int .i64 x)):=by
 have h:Upd (ownS (.slice (some ⟨g,off,none⟩) l.length cap)) w (w.setCell ⟨g,off+i,none⟩ (.int .i64 x)):=(zi w g (off+i) _).mono (fun k _ n=>by subst n;rfl);refine⟨⟨(h.block b (zd a.str) (fun e=>a.ne e)).trans a.str,?_,a.ne,by simpa using a.le⟩,h⟩;have:=a.sl.set i j x;rw[qzf];exact this
theorem SlotsAt.at(h:SlotsAt T w b v l){i:Nat}(p:i<l.length):∃g a j,v=.slice (some ⟨g,a,none⟩) l.length j/\w.cell? ⟨g,a+i,none⟩=some (.int .i64 l[i])/\w.frozen? ⟨g,a+i,none⟩=false:=by
 obtain⟨g,a,j,A,rfl,n,_,q⟩:=h.sl.at oM;exact⟨g,a,j,rfl,by rw[za n];exact q i _ (yh p),zf n _⟩
end
section
variable{w:World}{b:Nat}{v:Value}{l:List Int}
theorem Qj(h:SlotsAt 326 w b v l)(slot:Int)(a:slot<0\/(l.length:Int)<=slot):
  Calls prog 284 #[uR b,.int .i64 slot] w fun e w'=>e=.returned (.tuple #[.int .i64 0,.int .i64 10])/\w'=w:=by
 have j:=za h.str 0;simp at j;have n:=h.le;obtain⟨p,c,rfl⟩:=h.sl.rd.j6;clear h;by_cases q:slot<0
 .clear a;go_enter func284,ntmps284
  go_wp2
  go_ret2
  exact⟨rfl,rfl⟩
 .have h1:(l.length:Int)<=slot:=oM;clear a;go_enter func284,ntmps284
  go_wp2
  go_ret2
  exact⟨rfl,rfl⟩
theorem rv(a:SlotsAt 326 w b v l)(i:Nat)(h:i<l.length):
  Calls prog 284 #[uR b,.int .i64 i] w fun e w'=>e=.returned (.tuple #[.int .i64 l[i],.int .i64 0])/\w'=w:=by
 have j:=za a.str 0;simp at j;have n:=a.le;obtain⟨g,p,q,rfl,A,D⟩:=a.at h;clear a;go_enter func284,ntmps284
 go_wp2
 go_ret2
 exact⟨rfl,rfl⟩
def turnCode(l:List Int)(slot state:Int):Int:=
 if slot<0\/(l.length:Int)<=slot then 10 else if stateB state=false then 1 else if mayB (l.getD slot.toNat 0) state=false then 16 else 0
def turnList(l:List Int)(slot state:Int):List Int:=if turnCode l slot state=0 then l.set slot.toNat state else l
theorem Xz(h:SlotsAt 326 w b v l)(H:Tur w)(slot a:Int):
  Calls prog 214 #[uR b,.int .i64 slot,.int .i64 a] w fun e w'=>e=.returned (.int .i64 (turnCode l slot a))/\
   SlotsAt 326 w' b v (turnList l slot a)/\Upd (ownS v) w w':=by
 have q:=qqh h;have J:=qqh H;clear H;by_cases p:slot<0\/(l.length:Int)<=slot
 .have j:turnCode l slot a=10:=by simp[turnCode,p]
  have n:turnList l slot a=l:=by simp[turnList,j]
  rw[j,n];have N:=qqh p;clear h j n p;go_enter func214,ntmps214
  go_wp2_with fail
  refine(Qj q.o _ N.o).mono ?_;rintro e w' ⟨rfl,rfl⟩;go_wp2
  go_ret
  exact⟨rfl,q.o,uur _ _⟩
 .obtain ⟨i,rfl⟩:=Int.eq_ofNat_of_zero_le (show 0<=slot by omega);have A:i<l.length:=oM;have D:l.getD i 0=l[i]:=by simp[A]
  by_cases h1:stateB a=false
  .have j:turnCode l i a=1:=by simp only[turnCode,if_neg p,if_pos h1]
   have n:turnList l i a=l:=by simp[turnList,j]
   rw[j,n];have E:=qqh h1;clear h j n p D h1;go_enter func214,ntmps214
   go_wp2_with fail
   refine(rv q.o i A).mono ?_;rintro e w' ⟨rfl,rfl⟩;go_wp2_with fail
   refine(yH a _).mono ?_;rintro e w' ⟨rfl,rfl⟩;rw[E.o];go_wp2
   go_ret
   exact⟨rfl,q.o,uur _ _⟩
  .have F:stateB a=true:=by simpa using h1
   by_cases h2:mayB l[i] a=false
   .have j:turnCode l i a=16:=by simp only[turnCode,if_neg p,if_neg h1,qxt,D,if_pos h2]
    have n:turnList l i a=l:=by simp[turnList,j]
    rw[j,n];have E:=qqh F;have G:=qqh h2;clear h j n p D h1 F h2;go_enter func214,ntmps214
    go_wp2_with fail
    refine(rv q.o i A).mono ?_;rintro e w' ⟨rfl,rfl⟩;go_wp2_with fail
    refine(yH a _).mono ?_;rintro e w' ⟨rfl,rfl⟩;rw[E.o];go_wp2_with fail
    refine(UL _ _ _ J.o).mono ?_;rintro e w' ⟨rfl,rfl⟩;rw[G.o];go_wp2
    go_ret
    exact⟨rfl,q.o,uur _ _⟩
   .have L:mayB l[i] a=true:=by simpa using h2
    have j:turnCode l i a=0:=by simp only[turnCode,if_neg p,if_neg h1,qxt,D,if_neg h2]
    have n:turnList l i a=l.set i a:=by simp only[turnList,j,if_true,qxt]
    rw[j,n];have E:=qqh F;have G:=qqh L;have O:=za h.str 0;simp at O;have Q:=h.le;obtain⟨g,U,V,rfl,W,X⟩:=h.at A;have M:=qqh (q.o.set i A a);clear h j n p D h1 F h2 L;go_enter func214,ntmps214
    go_wp2_with fail
    refine(rv q.o i A).mono ?_;rintro e w' ⟨rfl,rfl⟩;go_wp2_with fail
    refine(yH a _).mono ?_;rintro e w' ⟨rfl,rfl⟩;rw[E.o];go_wp2_with fail
    refine(UL _ _ _ J.o).mono ?_;rintro e w' ⟨rfl,rfl⟩;rw[G.o];go_wp2
    go_ret
    exact⟨rfl,M.o.1,M.o.2⟩
end
def free(l:List Int):Nat:=l.findIdx (·==0)
theorem Ax(l:List Int):free l<=l.length:=List.findIdx_le_length
theorem Se(h:k<=free l)(j:k<l.length)(a:l[k]=0):free l=k:=by
 rcases Nat.lt_or_ge k (free l)with hlt|hge
 .have:=List.not_of_lt_findIdx hlt;simp[a]at this
 .omega
theorem Qk(h:k<=free l)(p:k<l.length)(a:l[k]≠0):k+1<=free l:=by
 rcases Nat.lt_or_ge k (free l)with hlt|hge
 .exact hlt
 .exfalso;have j:free l=k:=oM;have n:l.findIdx (·==0)<l.length:=by show free l<_;omega
  have h1:=List.findIdx_getElem (w:=n);have h2:l[k]==0:=by
   have:l.findIdx (·==0)=k:=j;simp only[this]at h1;exact h1
  exact a (by simpa using h2)
def allocVal(l:List Int):Int:=if free l<l.length then free l else 0
def allocCode(l:List Int):Int:=if free l<l.length then 0 else 17
def allocList(l:List Int):List Int:=l.set (free l) 1
theorem Ql(n:Nat):madeCells #[Value.int .i64 0] (n*1)=(ints (List.replicate n 0)).toArray:=by
 apply Array.ext
 .simp [size_madeCells]
 .intro i h1 h2;have:i%1=0:=Nat.mod_one i;simp[madeCells,ints,this]
theorem zbI:(prog.info? 3).map (fun i=>(i.zero,i.size,i.bytes))=some (some (.int .i64 0),1,8):=kR
abbrev TS:TypeId:=326
theorem Ay(n:Nat)(w:World)(h1:1<=n)(h2:n<=1024):
  Calls prog 141 #[.int .i64 n] w fun e w'=>e=.returned (.tuple #[uR (w.heap.size+1),.int .i64 0])/\
   SlotsAt TS w' (w.heap.size+1) (.slice (some ⟨w.heap.size,0,none⟩) n n) (List.replicate n 0)/\Below w.heap.size w w'/\w'.heap.size=w.heap.size+2:=by
 obtain⟨q,a,j,p,hz2⟩:=qYt zbI;have E:∀w:World,(Instr.makeSlice 87 (.int .i64 n) (.int .i64 n)).run prog w=.ok (.slice (some ⟨w.heap.size,0,none⟩) n n) (w.alloc (.cells (ints (List.replicate n 0)).toArray 3)):=by
  intro w;have:=run_make (P:=prog) w 87 3 q (.int .i64 0) underlying87 a j .i64 .i64 n n oM oM jK oM;rw[this];simp only[qxt,p,Value.cells];rw[Ql]
 have F:¬(n:Int)<1:=oM;have G:¬1024<(n:Int):=oM;clear a j p hz2;go_enter func141,ntmps141
 go_wp2
 go_ret2
 have A:(w.alloc (.cells (ints (List.replicate n 0)).toArray 3)).heap[w.heap.size]?=some (.cells (ints (List.replicate n 0)).toArray 3):=zc w _ rfl;refine⟨rfl,⟨zc _ _ oe,?_,by simp[Value.ownBlock],by simpa using h2⟩,((qxl _ _).alloc (qXp _) _).alloc oe _,oe⟩;refine⟨oe,.inr ⟨w.heap.size,0,n,(ints (List.replicate n 0)).toArray,oe,?_,oe,by unfold maxLen;omega,oe,?_⟩⟩
 .rw [qxk _ _ _ oe];exact A
 .intro H u D;simpa using D
section
variable{w:World}{b:Nat}{v:Value}{l:List Int}
theorem Qm(h:SlotsAt TS w b v l):
  Calls prog 384 #[uR b] w fun e w'=>e=.returned (.tuple #[.int .i64 (allocVal l),.int .i64 (allocCode l)])/\
   SlotsAt TS w' b v (allocList l)/\Upd (ownS v) w w':=by
 have G:=za h.str 0;simp at G;have N:=h.le;have E:=qqh h;obtain⟨O,c,rfl⟩:=h.sl.rd.j6;clear h;go_enter func384,ntmps384
 go_wp2
 go_step3
 go_wp2
 go_step3
 go_wp2
 go_loopg[4,5,15] (l.length+1) (fun g H ev i wr=>∃k:Nat,k+g=l.length+1/\k<=l.length/\H=.int .i64 0/\ev=.int .i64 17/\i=.int .i64 k/\k<=free l/\wr=w)
 case atStart=>exact⟨0,oM,oM,rfl,rfl,rfl,qXz _,rfl⟩
 case round=>
  obtain⟨k,Q,U,rfl,rfl,rfl,n,rfl⟩:=hrel;by_cases hlt:k<l.length
  .obtain ⟨g,V,W,J,X,Y⟩:=E.o.at hlt;cases J;by_cases p:l[k]=0
   .have a:=Se n hlt p;have L:(l[k]==0)=true:=by simpa using p
    have q:allocVal l=k:=by simp[allocVal,a,hlt]
    have A:allocCode l=0:=by simp[allocCode,a,hlt]
    have D:allocList l=l.set k 1:=by simp[allocList,a]
    have F:=qqh (E.o.set k hlt 1);have j:Hid (allocVal l=k/\allocCode l=0/\allocList l=l.set k 1):=⟨q,A,D⟩
    clear n a p q A D;go_wp2
    rw[qxr];go_ret2
    exact⟨by rw[j.o.1,j.o.2.1];rfl,by rw[j.o.2.2];exact F.o.1,F.o.2⟩
   .have L:(l[k]==0)=false:=by simpa using p
    have M:=Qk n hlt p;clear n p;go_wp2
    go_roundg (gk-1)
    case measure=>omega
    case rel=>exact⟨k+1,oM,oM,rfl,rfl,by go_num,M,rfl⟩
  .obtain rfl:k=l.length:=oM;have a:free l=l.length:=Nat.le_antisymm (Ax l) n;have q:allocVal l=0:=by simp[allocVal,a]
   have A:allocCode l=17:=by simp[allocCode,a]
   have D:allocList l=l:=by simp only[allocList,a];exact List.set_eq_of_length_le (qXp _)
   have j:Hid (allocVal l=0/\allocCode l=17/\allocList l=l):=⟨q,A,D⟩
   clear n a q A D;go_wp2
   rw[qxr];go_ret2
   exact⟨by rw[j.o.1,j.o.2.1];rfl,by rw[j.o.2.2];exact E.o,uur _ _⟩
theorem Qn(h:Rd w 1 v l.length (ints l))(V:l.length<=4096):
  Calls prog 302 #[v] w fun e w'=>∃a,e=.returned a/\Sl w' 3 1 a l.length (ints l)/\From w.heap.size a/\Below w.heap.size w w':=by
 obtain⟨q,A,D,E,F⟩:=qYt zbI;have G:=qqh h;obtain⟨p,W,H,c,rfl,j,_⟩:=h;have X:=fun(w:World) (n:Option Addr) (J c:Nat)=>Lib.run_eql_slice_nil (P:=prog) w 87 3 n J c 0 0 underlying87;cases H with
 |none=>
  have L:=j rfl;obtain rfl:l=[]:=qyc L;clear j p;go_enter func302,ntmps302
  go_wp2
  go_ret
  exact⟨_,rfl,by simpa using Sl.nil _ _ _,From.nil _ _ _,qxl _ _⟩
 |some n=>
  clear j p;have M:Sl (w.alloc (.cells #[] 3)) 3 1 (.slice (some ⟨w.heap.size,0,none⟩) 0 0) 0 []:=
   ⟨oe,.inr ⟨w.heap.size,0,0,#[],rfl,zc _ _ rfl,oe,by simp[maxLen],oe,oe⟩⟩
  have N:Hid (Rd (w.alloc (.cells #[] 3)) 1 (.slice (some n) l.length c) l.length (ints l)):=G.o.keep ((uur (fun _=>False) _).alloc _) (fun _ _ h=>h);go_enter func302,ntmps302
  go_wp2_with (at_builtin;refine zJ rfl _ _ 87 rfl q (.int .i64 0) 8 underlying87 A D E F rfl de rfl M _ l.length (ints l) rfl N.o (by simp[ints,Value.oneCell']) oj oM ?_)
  intro a Y O Q U;go_wp2
  go_ret
  refine⟨_,rfl,by simpa using O,?_,?_⟩
  .exact U.ge oe oL
  .refine zj ((qxl _ _).alloc (qXp _) _) Q (qXp _) oI
end
open Go Go.RowKit Go.Shelf Tryz
attribute [local go_sem] qYb
def xL(l:List Int)(st:Int)(k:Nat):List Nat:=(List.range k).filter fun i=>l[i]?.getD 0==st
abbrev pos(l:List Int)(st:Int):List Nat:=xL l st l.length
theorem vP{a:Int}(h:(l[k]?.getD 0==a)=true):xL l a (k+1)=xL l a k++[k]:=by simp[xL,List.range_succ,h]
theorem rD{a:Int}(h:(l[k]?.getD 0==a)=false):xL l a (k+1)=xL l a k:=by simp[xL,List.range_succ,h]
theorem Qo(l:List Int)(a:Int)(k:Nat):(xL l a k).length<=k:=by have:=List.length_filter_le (fun i=>l[i]?.getD 0==a) (List.range k);simpa[xL]using this
theorem uS(l:List Int)(a:Int){m:Nat}(h:k<=m):xL l a k<+:xL l a m:=by
 induction m with
 |zero=>
  obtain rfl:k=0:=oM;exact List.prefix_rfl
 |succ m n=>
  by_cases p:k=m+1
  .subst p;exact List.prefix_rfl
  .refine (n oM).trans ?_;by_cases j:(l[m]?.getD 0==a)=true
   .rw [vP j];exact List.prefix_append _ _
   .rw [rD (by simpa using j)];exact List.prefix_rfl
theorem Yh(l:List Int)(a:Int){m:Nat}(j:k<m)(h:(l[k]?.getD 0==a)=true):(xL l a k).length<(xL l a m).length:=by
 have h1:=(uS l a (show k+1<=m by omega)).length_le;rw[vP h]at h1;simp at h1;omega
theorem zca(F:Fence)(n:Nat)(Q:F.fn 303)(U:F.round=none)(ah:1<=n)(S:Nat->Prop)(l L q b off cap:Nat)(zs:List Int)(a:Int)(ai:zs.length<=1024)(V:¬S b)(X:¬S q)(A M:List Nat->World->Prop)
  (Y:∀j (x:Nat) W,A j W->j.length<(pos zs a).length->YieldAt F (n-1) prog l #[.int .i64 (x:Int)] W fun e p=>
   (e=.returned (.bool true)/\A (j++[x]) p/\Upd S W p)\/(e=.returned (.bool false)/\M (j++[x]) p))
  (W:World) (Z:b<W.heap.size) (a6:q<W.heap.size) (aj:W.cell? ⟨L,0,none⟩=some (.slice (some ⟨b,off,none⟩) zs.length cap)) (a7:W.cell? ⟨q,0,none⟩=some (.int .i64 a))
  (a8:∀G,G<zs.length->W.cell? ⟨b,off+G,none⟩=some (.int .i64 (zs[G]?.getD 0))) (aa:A [] W):
  CallsIn F n prog 303 #[.func (.yield l) #[] #[],.pointer (some ⟨L,0,none⟩),.pointer (some ⟨q,0,none⟩)] W fun e p=>(∃v,e=.returned v)/\
   ((∃N,N=pos zs a/\A N p)\/(∃j,j<+:pos zs a/\M j p)):=by
 refine callsIn_of_wp func303 rfl Q ?_ U;simp only[ntmps303,qXi,qza,qzd,Nat.reduceAdd,Nat.reduceSub,qxi,qxj,qXc,qxy,qzv,qxz]
 gi_wp2
 gi_loopw [8] (fun i wr=>∃k:Nat,k<=zs.length/\i=.int .i64 k/\A (xL zs a k) wr/\Upd S W wr)
  (fun i _=>zs.length-(intOf i).toNat)
 case atStart=>exact⟨0,qXz _,rfl,aa,uur _ _⟩
 case round=>
  obtain⟨k,ak,rfl,H,E⟩:=hrel;have am:wr.cell? ⟨q,0,none⟩=some (.int .i64 a):=(E.cellAt a6 X).trans a7;by_cases hlt:k<zs.length
  .have an:wr.cell? ⟨b,off+k,none⟩=some (.int .i64 (zs[k]?.getD 0)):=(E.cellAt Z V).trans (a8 k hlt);have O:Hid (zs[k]?.getD 0=zs[k]):=by show _=_;simp[hlt]
   by_cases J:(zs[k]==a)=true
   .have D:Hid ((zs[k]?.getD 0==a)=true):=by rw[O.out];exact J
    obtain⟨ao,ap,assign,body,hy,ab⟩:=Y _ k wr H (Yh zs a hlt D.out)
    gi_wp2
    refine ab.mono ?_;rintro e aq (⟨rfl,ad,ae⟩|⟨rfl,af⟩)
    .gi_wp2
     go_roundw
     case rel=>exact⟨k+1,oM,oe,by rw[vP D.out];exact ad,E.trans ae⟩
     case measure=>simp[intOf];omega
    .gi_wp2
     refine qYq (qYv rfl _ _ _) rfl ?_;exact⟨⟨_,rfl⟩,.inr ⟨_,by rw[<-vP D.out];exact uS zs a oM,af⟩⟩
   .have ag:(zs[k]==a)=false:=by simpa using J
    have D:Hid ((zs[k]?.getD 0==a)=false):=by rw[O.out];exact ag
    clear J
    gi_wp2
    refine⟨fun _ h=>ki,?_⟩
    gi_wp2
    go_roundw
    case rel=>exact⟨k+1,oM,oe,by rw[rD D.out];exact H,E⟩
    case measure=>simp[intOf];omega
  .obtain rfl:k=zs.length:=oM
   gi_wp2
   go_end0
   exact⟨⟨_,rfl⟩,.inl ⟨_,rfl,H⟩⟩
theorem Zy(F:Fence)(n:Nat)(G:F.fn 303)(H:F.round=none)(J:1<=n)(S:Nat->Prop)(j a b off cap:Nat)(zs:List Int)(q:Int)(w:World)(L:zs.length<=1024)
  (D:b<w.heap.size) (E:a<w.heap.size) (M:j<w.heap.size) (N:¬S b) (O:¬S a)
  (P:w.cell? ⟨j,0,none⟩=some (.slice (some ⟨b,off,none⟩) zs.length cap)) (Q:w.cell? ⟨a,0,none⟩=some (.int .i64 q))
  (U:∀h,h<zs.length->w.cell? ⟨b,off+h,none⟩=some (.int .i64 (zs[h]?.getD 0))):
  SeqStopsK F n prog 303 #[.pointer (some ⟨j,0,none⟩),.pointer (some ⟨a,0,none⟩)] (fun x:Nat=> #[Value.int .i64 (x:Int)]) (Upd S) (fun V=>V=pos zs q) (fun W=>W<+:pos zs q) (pos zs q).length w:=fun l X Y Z A _ _ a6 a7=>
 zca F n G H J S l j a b off cap zs q L N O X Y a6 Z (qXs D A.size) (qXs E A.size) ((A.cell (p:=⟨j,0,none⟩) M).trans P) ((A.cell (p:=⟨a,0,none⟩) E).trans Q) (fun h a8=>(A.cell (p:=⟨b,off+h,none⟩) D).trans (U h a8)) a7
theorem XA{a B:World}{h:Option Nat}{t:TypeId}(j:Boxed a b t v)(p:a.grownBy B h)(q:∀r,h=some r->∃o:Obj,a.heap[r]?=some o/\o.isCells=false):Boxed B b t v:=
 j.kept p (fun e=>by
  obtain⟨o,n,A⟩:=q _ e.symm;rw[show a.heap[b]?=_ from j]at n;cases n;simp[Obj.isCells]at A)
theorem uy{a B C:World}(h:Upd S a B)(j:Upd S B C):Upd S a C:=h.trans j
theorem wL{M:Nat}(j:∀a,M<=a->S a)(W:World)(l:Nat)(o n:Obj)(q:M<=l)(_:W.heap[l]?=some o)(_:o.isCells=false)(_:o.isWalk=false):Upd S W (W.putObj l n):=
 ⟨rfl,rfl,rfl,by simp[World.putObj],fun k _ p=>by
  have:k≠l:=fun e=>p (j k oM);simp only[World.putObj];rw[qxg (fun e=>this e.symm)]⟩
theorem UM(h:SlotsAt 326 w b v l)(n:Int)(M:0<l.length):
  Calls prog 232 #[uR b,.int .i64 n] w fun e w'=>∃D q g a A,e=.returned (.func (.func 303) #[] #[.pointer (some ⟨D,0,none⟩),.pointer (some ⟨q,0,none⟩)])/\
   (w.heap.size<=q/\w.heap.size<=g)/\D<w'.heap.size/\q<w'.heap.size/\g<w'.heap.size/\w'.cell? ⟨D,0,none⟩=some (.slice (some ⟨g,a,none⟩) l.length A)/\w'.cell? ⟨q,0,none⟩=some (.int .i64 n)/\
   (∀j,j<l.length->w'.cell? ⟨g,a+j,none⟩=some (.int .i64 (l[j]?.getD 0)))/\Below w.heap.size w w':=by
 have H:Upd (fun _=>False) w (w.alloc (.cells #[.int .i64 n] 3)):=(uur _ _).alloc _;have E:=h.new H;have N:=za E.str 0;simp at N;have O:=qqh E.sl.rd;have Y:=h.le;clear h E;go_enter func232,ntmps232
 go_wp2_with fail
 refine(Qn O.o oM).mono ?_;rintro e w1 ⟨Z,rfl,Q,U,F⟩;obtain⟨g,a,A,a6,rfl,J,_,V⟩:=Q.at M;have hlt:=zd J;go_wp2
 go_ret
 have W:=F.size;simp at W;have X:w1.cell? ⟨w.heap.size,0,none⟩=some (.int .i64 n):=(F.cell (p:=⟨w.heap.size,0,none⟩) oe).trans (by rw[za (zc _ _ rfl)];simp);have G:=(uur (fun _=>False) w1).alloc (.cells #[.slice (some ⟨g,a,none⟩) l.length A] 87);refine⟨w1.heap.size,w.heap.size,g,a,A,rfl,⟨qXp _,by have:=U g rfl;simp at this;omega⟩,oe,by simp;omega,by simp;omega,?_,?_,fun j L=>?_,?_⟩
 .rw [za (zc _ _ rfl)];simp
 .exact (G.cellAt oM id).trans X
 .refine (G.cellAt hlt id).trans ?_;rw[za J,V j _ (yh L)];simp[L]
 .exact zj (zj (qxl _ w) (Upd.new H (uuo (S:=fun _=>False) F) (fun _ _ h=>h)) (qXp _) (fun _ h=>h.elim)) G (qXp _) (fun _ h=>h.elim)
theorem Qq(h:SlotsAt 326 w b v l)(j:Int)(U:0<l.length):
  Calls prog 385 #[uR b,.int .i64 j] w fun e w'=>e=.returned (.int .i64 (pos l j).length)/\Below w.heap.size w w':=by
 have h1:=h.new ((uur (fun _=>False) w).alloc (.cells #[.int .i64 0] 3));have V:Hid ((pos l j).length<=1024):=by have h1:=Qo l j l.length;have h2:=h.le;exact qXr h1 h2
 have W:=h.le;clear h;refine(callsIn_wide (n:=3)).1 ?_;refine callsIn_of_wp_marks func385 rfl trivial ?_ rfl;simp only[ntmps385,qXi,qza,qzd,Nat.reduceAdd,Nat.reduceSub,qxi,qxj,qXc,qxy,qzv,qxz]
 gi_wp2_with (refine⟨trivial,?_⟩;gi_at_call 232;refine(callsIn_wide.2 (UM h1 j U)).mono ?_;rintro e w1 ⟨E,F,g,X,Y,rfl,hge,Z,a6,G,a7,a8,aa,H⟩)
 have ab:Boxed (w.alloc (.cells #[.int .i64 0] 3)) w.heap.size 3 (.int .i64 0):=Boxed.new w _ _;have ad:Boxed w1 w.heap.size 3 (.int .i64 0):=(H.block _ oe).trans ab;have ae:=H.size;simp at ae;have af:Below w.heap.size w w1:=zj ((qxl _ w).alloc (qXp _) _) (uuo (S:=fun _=>False) H) (qXp _) (fun _ h=>h.elim);refine wpIn_rangeFunc_ownF rfl oM (gf:=303) (lb:= #[.pointer (some ⟨E,0,none⟩),.pointer (some ⟨F,0,none⟩)]) rfl trivial (enters_of func303 kR rfl)
  (Zy Fence.wide _ trivial rfl oM (fun J=>w1.heap.size<=J\/J=w.heap.size) E F g X Y l j w1 W G a6 Z (by simp at hge;omega) (by simp at hge;omega) a7 a8 aa) uy (fun a l o ag ah=>wL (M:=w1.heap.size) (fun J h=> .inl h) a l o ag ah) (qxl _ _) (fun _=>rfl)
  (fun q a=>Boxed a w.heap.size 3 (.int .i64 q.length)/\Below w.heap.size w a)
  (fun _ _ _=>False)
  (OwnFrom.and (Own.from (I:=fun(s:List Nat) O=>Boxed O w.heap.size 3 (.int .i64 s.length)) (fun s O B am L G ai=>XA L G ai) _) (ownFrom_below (qXp _) oM))
  (fun _ _ _ _ _ L _ _=>L)
  ⟨ad,af⟩
  (fun x=>{tmps:= #[uR b,Value.int IntKind.i64 j,undef,undef,Value.int IntKind.i64 0,
     Value.pointer (some {block:=w.heap.size,off:=0}),uR b,Value.int IntKind.i64 j,
     Value.func (Fn.func 303) #[]
      #[Value.pointer (some {block:=E,off:=0}),Value.pointer (some {block:=F,off:=0})],
     .int .i64 x,undef,undef,undef],defers:=[]}) ?assign ?body ?done ?stop
 case assign=>
  intro l x a K D
  gi_wp2
  simpa using D
 case body=>
  rintro l q x a ⟨A,N⟩ hlt;have aj:=A.cell;have an:=A.frozen;have ao:(q.length:Int)<1024:=by have:=V.out;omega
  gi_wp2
  rw[show((q.length:Int)+1)=((q++[x]).length:Int) by simp];exact⟨KeepsOthers.setCell _ _ _,(zi a _ _ _).mono (fun k _ ak=> .inr ak),A.set _,N.setCell (p:=⟨w.heap.size,0,none⟩) (qXp _) _⟩
 case done=>
  rintro Q ap a aq rfl ⟨A,N⟩ D;have aj:=A.cell
  gi_wp2
  refine⟨oe,.inl ⟨_,_,rfl,run_takeDeferred D,?_⟩⟩;exact⟨_,results_tmp rfl _ _ _,rfl,N.trans (belowK_b (w:=w) (qXp _) a Q _ _ oM D rfl rfl)⟩
 case stop=>
  rintro Q c q a _ _ h _;exact h.elim
end Go.Proofs.YtpejdgiccaijfaaGreatDoor
