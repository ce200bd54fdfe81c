/- A device's Cop -/
import Derived.Test.YtpejdgiccaijfaaGreatDoorG02
import Derived.Laws.EntriesVeiled
import Derived.Test.YtpejdgiccaijfaaGreatDoorG03
import Derived.RangeFuncWrites
import Derived.Test.YtpejdgiccaijfaaGreatDoorG05
set_option maxRecDepth 100000
set_option maxHeartbeats 4000000
namespace Go.Proofs.YtpejdgiccaijfaaGreatDoor
open Go Go.RowKit Tryz
variable{w w':World}{F:List Bk}{O:List (Nat×Bk)}{b:Nat}{S:Nat->Prop}{P:List Int}{row:Option Nat}{l:List Bool}
section
theorem XO{v:Value}{n:Nat}{xs:List Value}(h:Rd w 64 v n xs)(Z:n<=65536)(D:∀u∈xs,u.oneCell'=true):
  Calls prog 121 #[v] w fun e w'=>∃j,e=.returned j/\Sl w' 60 64 j n xs/\From w.heap.size j/\Below w.heap.size w w':=by
 obtain⟨s,E,A,G,H⟩:=qYt Vg;obtain⟨z0,J,L⟩:∃z,s.zero=some z/\z.cells.size=64:=⟨_,A,by simp[bkV,Value.cells,zB,bkC]⟩
 clear A;have M:=qqh h;obtain⟨p,N,T,c,rfl,q,-⟩:=h;have a6:=fun(w:World) (a:Option Addr) (n c:Nat)=>Lib.run_eql_slice_nil (P:=prog) w 32 60 a n c 0 0 underlying32;cases T with
 |none=>
  obtain rfl:=q rfl;have hx:Hid (xs=[]):=qyc (by simpa using p);clear p q N;go_enter func121,ntmps121
  go_wp2
  go_ret
  rw[hx.out];exact⟨_,rfl,Sl.nil _ _ _,From.nil _ _ _,qxl _ _⟩
 |some a=>
  clear q p;have U:Sl (w.alloc (.cells #[] 60)) 60 64 (.slice (some ⟨w.heap.size,0,none⟩) 0 0) 0 []:=
   ⟨oe,.inr ⟨w.heap.size,0,0,#[],rfl,zc _ _ rfl,oe,by simp[maxLen],oe,oe⟩⟩
  have V:Hid (Rd (w.alloc (.cells #[] 60)) 64 (.slice (some a) n c) n xs):=M.o.keep ((uur (fun _=>False) _).alloc _) (fun _ _ h=>h);go_enter func121,ntmps121
  go_wp2_with (at_builtin;refine zJ rfl _ _ 32 rfl s z0 64 underlying32 E J G H L de rfl U _ n xs rfl V.o D oj oM ?_)
  intro j a7 W X Y;go_wp2
  go_ret
  refine⟨_,rfl,by simpa using W,?_,?_⟩
  .exact Y.ge oe oL
  .refine zj ((qxl _ _).alloc (qXp _) _) X (qXp _) oI
theorem QF(F:List Bk):∀u∈rowC F,u.oneCell'=true:=by
 intro u h;simp only[rowC,qzq]at h;obtain⟨x,-,hx⟩:=h;exact zx x u hx
theorem need_any(n:Nat)(h1:1<=n)(h2:n<=100000)(w:World):Calls prog 31 #[.int .i64 (n:Int)] w fun e w'=>e=.returned (.int .i64 (((n-1)/4+1:Nat):Int))/\w=w':=by
 have q1:decide ((n:Int)<0)=false:=oe;have q2:((n:Int)==0)=false:=by rw[qYp];omega
 have j:¬((n:Int)<0):=oM;go_enter func31,ntmps31
 go_wp2
 go_ret
 refine⟨?_,rfl⟩;show Ending.returned (Value.int .i64 _)=_
 congr 2
 omega
theorem zck(n f t:Int)(h1:f<=n)(h2:n<=t)(w:World):Calls prog 44 #[.int .i64 n,.int .i64 f,.int .i64 t] w fun e w'=>e=.returned (.bool true)/\w=w':=by
 have q1:decide (f<=n)=true:=by simpa using h1
 have q2:decide (n<=t)=true:=by simpa using h2
 go_enter func44,ntmps44
 go_wp2
 go_ret
 exact⟨rfl,rfl⟩
abbrev superC(id bl sl jo pa lo ba:Int):List Value:=[.int .i64 id,.int .i64 bl,.int .i64 sl,.int .i64 jo,.int .i64 pa,.int .i64 lo,.int .i64 ba]
abbrev layC(sl jo pa lo:Nat):List Value:=[.int .i64 1,.int .i64 (1+2*(pa:Int)),.int .i64 (1+2*(pa:Int)+(jo:Int)),.int .i64 (1+2*(pa:Int)+(jo:Int)+(lo:Int)),.int .i64 (1+2*(pa:Int)+(jo:Int)+(lo:Int)+(lo:Int)),.int .i64 (1+2*(pa:Int)+(jo:Int)+(lo:Int)+(lo:Int)+(lo:Int)),.int .i64 (1+2*(pa:Int)+(jo:Int)+(lo:Int)+(lo:Int)+(lo:Int)+(sl:Int))]
theorem Upd.j4(h:Upd (fun _=>False) w w'){o:Obj}(e:w.heap[b]?=some o):w'.heap[b]?=some o:=by
 have:=h.block b (Array.getElem?_eq_some_iff.1 e).1 id;rw[this,e]
theorem SA(sl j k p:Nat):(layC sl j k p).toArray.all (·.oneCell')=true:=by
 refine qYo fun q h=>?_;simp only[layC,qzn,qzz,qYu]at h;rcases h with rfl|rfl|rfl|rfl|rfl|rfl|rfl<;>rfl
theorem xU:(prog.info? 73).map (·.size)=some 7:=kR
theorem xB:(prog.info? 44).map (·.size)=some 7:=kR
theorem tc(id:Int)(bl sl k p j q:Nat)(aq:1<=bl)(ar:bl<=4096)(aj:1<=sl)(au:sl<=1024)(av:4<=k)(aw:k<=1024)(ax:1<=j)(ay:j<=1024)(a1:1<=q)(a2:q<=64)(az:(sl-1)/4+1<=p)(aA:p<=4096)
  (aB:1+2*p+k+j+j+j+sl<=4096) (w:World):
  Calls prog 26 #[.agg (superC id bl sl k p j q).toArray] w fun e w'=>e=.returned (.tuple #[.agg (layC sl k p j).toArray,.int .i64 0])/\Below w.heap.size w w':=by
 have v:=zc w (.cells (superC id bl sl k p j q).toArray 44) rfl;have N:(w.alloc (.cells (superC id bl sl k p j q).toArray 44)).cell? ⟨w.heap.size,1,none⟩=some (.int .i64 (bl:Int)):=za v 1;have T:(w.alloc (.cells (superC id bl sl k p j q).toArray 44)).cell? ⟨w.heap.size,2,none⟩=some (.int .i64 (sl:Int)):=za v 2;have U:(w.alloc (.cells (superC id bl sl k p j q).toArray 44)).cell? ⟨w.heap.size,3,none⟩=some (.int .i64 (k:Int)):=za v 3;have V:(w.alloc (.cells (superC id bl sl k p j q).toArray 44)).cell? ⟨w.heap.size,4,none⟩=some (.int .i64 (p:Int)):=za v 4;have W:(w.alloc (.cells (superC id bl sl k p j q).toArray 44)).cell? ⟨w.heap.size,5,none⟩=some (.int .i64 (j:Int)):=za v 5;have X:(w.alloc (.cells (superC id bl sl k p j q).toArray 44)).cell? ⟨w.heap.size,6,none⟩=some (.int .i64 (q:Int)):=za v 6;go_enter func26,ntmps26
 go_wp2_with fail
 have A:Upd (fun _=>False) (w.alloc (.cells (superC id bl sl k p j q).toArray 44)) ((w.alloc (.cells (superC id bl sl k p j q).toArray 44)).alloc (.cells #[.int .i64 0,.int .i64 0,.int .i64 0,.int .i64 0,.int .i64 0,.int .i64 0,.int .i64 0] 73)):=(uur _ _).alloc _;have D:((w.alloc (.cells (superC id bl sl k p j q).toArray 44)).alloc (.cells #[.int .i64 0,.int .i64 0,.int .i64 0,.int .i64 0,.int .i64 0,.int .i64 0,.int .i64 0] 73)).heap[w.heap.size+1]?=_:=zc _ _ oe;have Y:Upd (fun _=>False) w ((w.alloc (.cells (superC id bl sl k p j q).toArray 44)).alloc (.cells #[.int .i64 0,.int .i64 0,.int .i64 0,.int .i64 0,.int .i64 0,.int .i64 0,.int .i64 0] 73)):=((uur _ w).alloc _).alloc _;have E:((w.alloc (.cells (superC id bl sl k p j q).toArray 44)).alloc (.cells #[.int .i64 0,.int .i64 0,.int .i64 0,.int .i64 0,.int .i64 0,.int .i64 0,.int .i64 0] 73)).heap.size=w.heap.size+2:=oe;replace N:=A.j3 N (fun h=>h);replace T:=A.j3 T (fun h=>h);replace U:=A.j3 U (fun h=>h);replace V:=A.j3 V (fun h=>h);replace W:=A.j3 W (fun h=>h);replace X:=A.j3 X (fun h=>h);generalize (w.alloc (.cells (superC id bl sl k p j q).toArray 44)).alloc (.cells #[.int .i64 0,.int .i64 0,.int .i64 0,.int .i64 0,.int .i64 0,.int .i64 0,.int .i64 0] 73)=s at*;generalize ak:w.heap.size=m at*;have L:=Y3 D Y E;clear v A D Y E
 go_region_held3 (fun M=>M.cell? ⟨m,1,none⟩=some (.int .i64 (bl:Int))/\M.cell? ⟨m,2,none⟩=some (.int .i64 (sl:Int))/\M.cell? ⟨m,3,none⟩=some (.int .i64 (k:Int))/\M.cell? ⟨m,4,none⟩=some (.int .i64 (p:Int))/\M.cell? ⟨m,5,none⟩=some (.int .i64 (j:Int))/\M.cell? ⟨m,6,none⟩=some (.int .i64 (q:Int)))
  ((go_split_ands;(simp only[qYi]at*);((repeat' constructor)<;>assumption)))
  (first|(go_at_call 44;refine(zck _ _ _ oM oM _).mono ?_;rintro e w' ⟨rfl,rfl⟩)|(go_at_call 31;refine(need_any _ aj oM _).mono ?_;rintro e w' ⟨rfl,rfl⟩))
 obtain⟨D,Y,E⟩:=L.o;clear L N T U V W X
 rename_i am
 obtain⟨N,T,U,V,W,X⟩:=am;have aC:m<s.drew.heap.size:=by show _<s.heap.size;omega
 have aD:m+1<s.drew.heap.size:=by show _<s.heap.size;omega
 have a8:Upd (fun _=>False) w s.drew:=Y.drew;replace D:s.drew.heap[m+1]?=_:=D;replace E:s.drew.heap.size=m+2:=E;have L:=Y3 D a8 E;clear D Y E a8;generalize s.drew=G at*;have aa:Hid (∀a6,(G.alloc a6).there (m+1) 0 7):=by
  intro a6 aE hj;have ab:(G.alloc a6).heap[m+1]?=_:=((uur (fun _=>False) G).alloc a6).j4 L.o.1;rw[za ab,zf ab,qXy];refine⟨?_,rfl⟩;rw[qxe oC];rfl
 go_upto_region 14 with fail
 have an:=zg (zc G (.cells (layC sl k p j).toArray 73) rfl);have ad:Below w.heap.size w (G.alloc (.cells (layC sl k p j).toArray 73)):=Upd.below ((L.o.2.1).alloc _);have a7:=aa.out (.cells (layC sl k p j).toArray 73);clear N T U V W X L aa;generalize G.alloc (.cells (layC sl k p j).toArray 73)=ae at*;generalize G.heap.size=aF at*;have Z:(layC sl k p j).length=7:=rfl;have h1:=SA sl k p j;have ao:(Value.tuple #[.agg (layC sl k p j).toArray,.int .i64 0])=Value.tuple #[.agg (layC sl k p j).toArray,.int .i64 0]:=rfl;generalize ap:layC sl k p j=H at*;have af:(prog.info? 73).map (·.size)=some H.length:=by rw[Z];exact xU
 have ag:(prog.info? 73).map (·.size)=some H.toArray.size:=by rw[qXi,Z];exact xU
 have ah:ae.there (m+1) 0 H.toArray.size:=by rw[qXi,Z];exact a7
 have ai:ae.there (m+1) 0 H.length:=by rw[Z];exact a7
 have J:=Y6 ad ah ai af ag h1;clear ad a7 ah ai af ag h1 Z ao;go_wp2_with (first
  |(refine qYz rfl _ _ rfl _ _ rfl H _ an underlying73 rfl J.o.2.2.2.1 ?_)
  |(refine qZb rfl _ _ _ rfl (m+1) 0 H.toArray rfl rfl J.o.2.1 J.o.2.2.2.2.1 J.o.2.2.2.2.2 ?_)
  |fail)
 refine qYq (zp rfl _ _ (m+1) 0 H _ rfl (qYl _ _ _ _ J.o.2.2.1) underlying73 rfl J.o.2.2.2.1) rfl ⟨by subst ap;rfl,zj (ak▸J.o.1) (zn _ (m+1) 0 _) oM (fun aG e=>oM)⟩
open Go Go.RowKit Go.Shelf Tryz
attribute [local go_sem] qYb
abbrev zeL(base:Nat){m:Nat}(x:{i:Nat//i<m}):Array Value:= #[.int .i64 (x.1:Int),.int .i64 ((base:Int)+(x.1:Int))]
theorem zcl(n:Nat)(ab:1<=n)(S:Nat->Prop)(l q s base m:Nat)(ad:m<=4096)(ae:base<=4096)(J:¬S q)(L:¬S s)(v E:List {i:Nat//i<m}->World->Prop)
  (M:∀j (x:{i:Nat//i<m}) W,v j W->j.length<m->YieldAt Fence.wide (n-1) prog l (zeL base x) W fun e p=>
   (e=.returned (.bool true)/\v (j++[x]) p/\Upd S W p)\/(e=.returned (.bool false)/\E (j++[x]) p))
  (W:World) (N:q<W.heap.size) (T:s<W.heap.size) (U:W.cell? ⟨q,0,none⟩=some (.int .i64 m)) (V:W.cell? ⟨s,0,none⟩=some (.int .i64 base)) (X:v [] W):
  CallsIn Fence.wide n prog 196 #[.func (.yield l) #[] #[],.pointer (some ⟨q,0,none⟩),.pointer (some ⟨s,0,none⟩)] W fun e p=>(∃Y,e=.returned Y)/\
   ((∃G:List {i:Nat//i<m},G.map (·.1)=List.range m/\v G p)\/(∃j:List {i:Nat//i<m},j.map (·.1)=List.range j.length/\E j p)):=by
 refine callsIn_of_wp func196 rfl trivial ?_ rfl;simp only[ntmps196,qXi,qza,qzd,Nat.reduceAdd,Nat.reduceSub,qxi,qxj,qXc,qxy,qzv,qxz]
 gi_wp2
 gi_loopw [4] (fun i wr=>∃(k:Nat) (j:List {i:Nat//i<m}),k<=m/\i=.int .i64 k/\j.map (·.1)=List.range k/\v j wr/\Upd S W wr)
  (fun i _=>m-(intOf i).toNat)
 case atStart=>exact⟨0,[],qXz _,rfl,rfl,X,uur _ _⟩
 case round=>
  obtain⟨k,j,af,rfl,A,H,D⟩:=hrel;have ag:wr.cell? ⟨q,0,none⟩=some (.int .i64 m):=(D.cellAt N J).trans U;have ah:wr.cell? ⟨s,0,none⟩=some (.int .i64 base):=(D.cellAt T L).trans V;by_cases hlt:k<m
  .have Z:j.length=k:=by have:=congrArg List.length A;simpa using this
   obtain⟨ai,aj,assign,body,hy,a6⟩:=M j ⟨k,hlt⟩ wr H oM;have ak:(k:Int)<(m:Int):=oM
   gi_wp2
   refine a6.mono ?_;rintro e am (⟨rfl,a7,a8⟩|⟨rfl,aa⟩)
   .gi_wp2
    go_roundw
    case rel=>exact⟨k+1,j++[⟨k,hlt⟩],oM,oe,by simp[List.range_succ,A],a7,D.trans a8⟩
    case measure=>simp[intOf];omega
   .gi_wp2
    refine qYq (qYv rfl _ _ _) rfl ?_;exact⟨⟨_,rfl⟩,.inr ⟨_,by simp[List.range_succ,A,Z],aa⟩⟩
  .obtain rfl:k=m:=oM
   gi_wp2
   go_end0
   exact⟨⟨_,rfl⟩,.inl ⟨_,A,H⟩⟩
theorem ZF(n:Nat)(A:1<=n)(S:Nat->Prop)(h j base m:Nat)(w:World)(D:m<=4096)(E:base<=4096)(s:h<w.heap.size)(v:j<w.heap.size)(G:¬S h)(H:¬S j)
  (J:w.cell? ⟨h,0,none⟩=some (.int .i64 m)) (L:w.cell? ⟨j,0,none⟩=some (.int .i64 base)):
  SeqStopsK Fence.wide n prog 196 #[.pointer (some ⟨h,0,none⟩),.pointer (some ⟨j,0,none⟩)] (fun x:{i:Nat//i<m}=>zeL base x) (Upd S) (fun k=>k.map (·.1)=List.range m) (fun k=>k.map (·.1)=List.range k.length) m w:=fun l M N T q _ _ U V=>
 zcl n A S l h j base m D E G H M N U T (qXs s q.size) (qXs v q.size) ((q.cell (p:=⟨h,0,none⟩) s).trans J) ((q.cell (p:=⟨j,0,none⟩) v).trans L) V
theorem qu(base m:Int)(w:World):
  Calls prog 131 #[.int .i64 base,.int .i64 m] w fun e w'=>e=.returned (.func (.func 196) #[] #[.pointer (some ⟨w.heap.size+1,0,none⟩),.pointer (some ⟨w.heap.size,0,none⟩)])/\
   w'=(w.alloc (.cells #[.int .i64 base] 3)).alloc (.cells #[.int .i64 m] 3):=by
 have h:=qqf;go_enter func131,ntmps131
 go_wp2
 go_ret
 exact⟨rfl,rfl⟩
theorem SC(h:Dv S w b F O P)(base m:Nat)(h1:1<=m)(h2:base+m<=F.length):
  Calls prog 129 #[.pointer (some ⟨b,0,none⟩),.int .i64 (base:Int),.int .i64 (m:Int),.int .i64 1] w fun e w'=>e=.returned (.bool true)/\w=w':=by
 have j:=h.good.fl;have k:¬((base:Int)>(F.length:Int)):=oM;have p:(m:Int)<=((F.length:Int)-(base:Int)):=oM;have q:¬((m:Int)<1):=oM;have s:¬((base:Int)<0):=oM;have v:0<=((F.length:Int)-(base:Int)):=oM;have q1:decide ((F.length:Int)<(base:Int))=false:=by simp;omega
 go_enter func129,ntmps129
 go_wp2_with (first
  |(go_at_call 78;refine(qn h).mono ?_;rintro e w' ⟨rfl,rfl⟩)
  |fail)
 go_ret
 exact⟨rfl,rfl⟩
attribute [local go_sem] qYb
def AR(w:World)(S:Nat->Prop):Prop:=∀j,S j->j<w.heap.size->∃cs t z,w.heap[j]?=some (.cells cs t z)
theorem zD(hu:Upd S w w')(q:AR w S):KeepsOthers w w':=
 ⟨hu.size,fun j o h s=>by
  have k:=zd h;refine(hu.block j k (fun v=>?_)).trans h;obtain⟨cs,t,z,p⟩:=q j v k;rw[h]at p;cases p;simp[Obj.isCells]at s⟩
theorem yJ{a:World}(h:Upd S a w)(j:w.grownBy w' row)(k:∀r,row=some r->S r):Upd S a w':=
 h.trans (Upd.kC j (fun g e _=>k g e))
theorem VA{j:Nat}{cs:Array Value}{t:TypeId}{z:Nat×Nat}(k:w.heap[j]?=some (.cells cs t z))(_hg:w.grownBy w' row)(p:∀r,row=some r->∃o:Obj,w.heap[r]?=some o/\o.isCells=false):row≠some j:=fun e=>by
 obtain⟨o,h,q⟩:=p j e;rw[k]at h;cases h;simp[Obj.isCells]at q
theorem zcm:(#[.int .u8 0,.int .u8 0,.int .u8 0,.int .u8 0,.int .u8 0,.int .u8 0,.int .u8 0,.int .u8 0,.int .u8 0,.int .u8 0,.int .u8 0,.int .u8 0,.int .u8 0,.int .u8 0,.int .u8 0,.int .u8 0,.int .u8 0,.int .u8 0,.int .u8 0,.int .u8 0,.int .u8 0,.int .u8 0,.int .u8 0,.int .u8 0,.int .u8 0,.int .u8 0,.int .u8 0,.int .u8 0,.int .u8 0,.int .u8 0,.int .u8 0,.int .u8 0,.int .u8 0,.int .u8 0,.int .u8 0,.int .u8 0,.int .u8 0,.int .u8 0,.int .u8 0,.int .u8 0,.int .u8 0,.int .u8 0,.int .u8 0,.int .u8 0,.int .u8 0,.int .u8 0,.int .u8 0,.int .u8 0,.int .u8 0,.int .u8 0,.int .u8 0,.int .u8 0,.int .u8 0,.int .u8 0,.int .u8 0,.int .u8 0,.int .u8 0,.int .u8 0,.int .u8 0,.int .u8 0,.int .u8 0,.int .u8 0,.int .u8 0,.int .u8 0]:Array Value)=(bkC zB).toArray:=kR
def Xl(base:Nat)(B:List Bk)(i:Nat):Nat×Bk:=(base+i,B.getD i zB)
def ckO(base m:Nat)(B:List Bk):List (Nat×Bk):=(List.range m).map (Xl base B)
theorem DvAt.cells{s vo v:Value}(k:DvAt w b s vo v F O P):∀h,dvS b s vo v h->∃cs t,w.heap[h]?=some (.cells cs t (0,0)):=by
 have p:∀{e:TypeId} {A n:Nat} {q:Value} {D:List Value},Sl w e A q n D->∀h,q.ownBlock=some h->∃cs t,w.heap[h]?=some (.cells cs t (0,0)):=by
  intro e A n q D hsl h j;rcases hsl with⟨-,⟨rfl,-⟩|⟨g,G,H,J,rfl,E,-⟩⟩
  .cases j
  .cases j;exact⟨_,_,E⟩
 rintro h (rfl|j|j|j)
 .exact ⟨_,_,k.str⟩
 .exact p k.fs h j
 .exact p k.os h j
 .exact p k.ps h j
theorem Dv.grown(h:Dv S w b F O P)(p:w.grownBy w' row)(q:∀r,row=some r->∃o:Obj,w.heap[r]?=some o/\o.isCells=false):Dv S w' b F O P:=by
 obtain⟨s,vo,v,h,A⟩:=h;refine⟨s,vo,v,h.keep (Upd.kC (S:=fun j=>row=some j) p (fun g e _=>e)) (fun j D e=>?_),A⟩;obtain⟨cs,t,E⟩:=h.cells j D;obtain⟨o,k,G⟩:=q j e;rw[E]at k;cases k;simp[Obj.isCells]at G
section
variable{F:Fence}{n:Nat}{P:Program}{ops:Array Oper}{rest:List Oper}{op:Oper}{a:Act}{w:World}{Q:Exit->Act->World->Prop}
theorem uq{K:Act->World->Prop}(j:TypeId)(x:Operand)(ho:op.op=.load j x)(b o:Nat)(hx:a.eval x=.pointer (some ⟨b,o,none⟩))(cs:List Value)(d:TypeDesc)(k:w.rangeAt b o cs)
  (hu:P.underlying j=some d) (p:d.isRow=true) (q:(P.info? j).map (·.size)=some cs.length) (h:K (a.put op.dst (.agg cs.toArray)) w):op.wpIn F n P a w K Q:=by
 unfold Oper.wpIn;refine⟨by simp[Oper.about,ho],?_⟩;rw[Oper.semAt_plain F _ _ jL];unfold execOp;simp only[ho,hx,Instr.loadAt,Instr.sureAddr,qYg,Sem.run_pure,qYf,run_loadVar_mid w b o j cs d k hu p q];exact h
theorem yM(j:op.guard=none)(h:TypeId)(x:Operand)(k:op.op=.load h x)(b o:Nat)(hx:a.eval x=.pointer (some ⟨b,o,none⟩))(cs:List Value)(d:TypeDesc)(p:w.rangeAt b o cs)
  (hu:P.underlying h=some d) (q:d.isRow=true) (s:(P.info? h).map (·.size)=some cs.length) (v:wpListIn F n P ops Q rest (a.put op.dst (.agg cs.toArray)) w):wpListIn F n P ops Q (op::rest) a w:=
 wpListIn_plain j fun _ A=>uq h x k b o hx cs d p hu q s (A _ _ v)
theorem rZ{K:Act->World->Prop}(j:TypeId)(x y:Operand)(ho:op.op=.store j x y)(b o:Nat)(cells:Array Value)(hx:a.eval x=.pointer (some ⟨b,o,none⟩))(hy:a.eval y=.agg cells)
  (k:w.there b o cells.size) (p:(P.info? j).map (·.size)=some cells.size) (h1:cells.all (·.oneCell')=true)
  (h:K (a.put op.dst undef) (w.setCells b o cells.toList)):op.wpIn F n P a w K Q:=by
 unfold Oper.wpIn;refine⟨by simp[Oper.about,ho],?_⟩;rw[Oper.semAt_plain F _ _ jL];unfold execOp;simp only[ho,hx,hy,Instr.storeAt,Instr.sureAddr,qYg,Sem.run_pure,qYf,run_storeVar_mid w b o j cells k p h1];exact h
theorem uA(j:op.guard=none)(h:TypeId)(x y:Operand)(k:op.op=.store h x y)(b o:Nat)(cells:Array Value)(hx:a.eval x=.pointer (some ⟨b,o,none⟩))(hy:a.eval y=.agg cells)
  (p:w.there b o cells.size) (q:(P.info? h).map (·.size)=some cells.size) (h1:cells.all (·.oneCell')=true)
  (s:wpListIn F n P ops Q rest (a.put op.dst undef) (w.setCells b o cells.toList)):wpListIn F n P ops Q (op::rest) a w:=
 wpListIn_plain j fun _ v=>rZ h x y k b o cells hx hy p q h1 (v _ _ s)
theorem xN(p:op.guard=none)(k:TypeId)(x y:Operand)(q:op.op=.store k x y)
  (zs:Array Value) (t:TypeId) (j:List Value) (hx:a.eval x=.pointer (some ⟨w.heap.size,0,none⟩)) (hy:a.eval y=.agg j.toArray) (s:zs.size=j.length)
  (hi:(P.info? k).map (·.size)=some j.length) (h1:∀v∈j,v.oneCell'=true)
  (h:wpListIn F n P ops Q rest (a.put op.dst undef) (w.alloc (.cells j.toArray t))):wpListIn F n P ops Q (op::rest) a (w.alloc (.cells zs t)):=by
 refine uA p k x y q w.heap.size 0 j.toArray hx hy (fun D A=>?_) oz (qYo h1) ?_
 .rw [za (zc w _ rfl),zf (zc w _ rfl)];simp at A;exact⟨by rw[qXy,qxe oM];rfl,rfl⟩
 .rw [List.toList_toArray,qm w t j zs s];exact h
end
end
section
theorem xO(h:Bk)(j:h=zB):∀w:World,(Instr.build 60 #[]).run prog w=.ok (.agg (bkC h).toArray) w:=by
 intro w;subst j;kernel_rfl
theorem zY{ops:Array Oper}{rest:List Oper}{op:Oper}{a:Act}{Q:Exit->Act->World->Prop}(j:op.guard=none)(k:op.op=.build 60 #[]){h:Bk}
  (p:∀w:World,(Instr.build 60 #[]).run prog w=.ok (.agg (bkC h).toArray) w)
  (q:wpList prog ops Q rest (a.put op.dst (.agg (bkC h).toArray)) w):wpList prog ops Q (op::rest) a w:=by
 refine qZa j fun v s=>?_;unfold Oper.wp;simp only[execOp,k,qzl,qzk,qYg,p,qYf];exact s _ _ q
theorem uB(h:Bk)(j:h=zB):∀w:World,(Instr.alloc 60 true (.tuple #[])).run prog w=.ok (.pointer (some ⟨w.heap.size,0,none⟩)) (w.alloc (.cells (bkC h).toArray 60)):=by
 intro w;subst j;kernel_rfl
theorem sa{P:Program}{ops:Array Oper}{o:Oper}{a:Act}{K:Act->World->Prop}{Q:Exit->Act->World->Prop}{E:Prop}(h:o.guard=none)(t:TypeId)(j:o.op=.alloc t)(cs:Array Value)
  (k:∀w:World,(Instr.alloc t true (.tuple #[])).run P w=.ok (.pointer (some ⟨w.heap.size,0,none⟩)) (w.alloc (.cells cs t)))
  (p:K (a.put o.dst (.pointer (some ⟨w.heap.size,0,none⟩))) (w.alloc (.cells cs t))):if Region.wanted o (yielded ops a.tmps)=true then Oper.wp P o a w K Q else E:=by
 have q:Region.wanted o (yielded ops a.tmps)=true:=by simp[Region.wanted,h]
 rw[if_pos q];unfold Oper.wp;simp only[execOp,j,qYg,k,qYf];exact p
theorem VB(id bl sl k p q s:Int):∀h∈superC id bl sl k p q s,h.oneCell'=true:=by
 intro h j;simp only[superC,qzn,qzz,qYu]at j;rcases j with rfl|rfl|rfl|rfl|rfl|rfl|rfl<;>rfl
def se(X:Int->World->Prop)(R:World->Prop)(e:Ending)(w':World):Prop:=∃c:Int,e=.returned (.int .i64 c)/\(c=0->R w')/\(c≠0->X c w')
theorem zeM{g n:Nat}(a7:n<=100)(fd:Nat->Nat)(fi ca:Nat->Array Value)(R:Nat->World->Prop)(X:Int->World->Prop)
  (G:∀j,j<n->∀k,R j k->k.cell? ⟨g,j,none⟩=some (.func (.func (fd j)) (fi j) (ca j)))
  (H:∀j,j<n->∀J k,(callFunc (fd j) J).run prog k=.ok (.enter (fd j) J) k)
  (L:∀j,j<n->∀k,R j k->Calls prog (fd j) (fi j++ca j) k (se X (R (j+1))))
   (M:R 0 w):Calls prog 53 #[.slice (some ⟨g,0,none⟩) n n] w (se X (R n)):=by
 have s:=Y3 G L M;have W:=qqh H;clear G H L M;go_enter func53,ntmps53
 go_wp2
 go_step3
 go_wp2
 go_step3
 go_wp2_with fail
 go_loopg[3,8] n (fun gk Y Z wr=>∃j:Nat,j+gk=n/\Z=.int .i64 (j:Int)/\Y=.int .i64 0/\R j wr)
 case atStart=>exact⟨0,oM,rfl,rfl,s.o.2.2⟩
 case round=>
  obtain⟨j,a8,rfl,rfl,p⟩:=hrel;by_cases hlt:j<n
  .have a6:(j:Int)<(n:Int):=oM;have aa:(0:Int)<=(j:Int):=oM;have cg:=s.o.1 j hlt wr p;have v:=qqh (s.o.2.1 j hlt wr p);have N:=W.o j hlt;clear p;obtain⟨ab,A⟩:=qqe (fd j);obtain⟨ad,T⟩:=qqe (fi j);obtain⟨ck,U⟩:=qqe (ca j);rw[<-A,<-T,<-U]at cg v;rw[<-A]at N;clear A T U;go_wp2_with fail
   refine v.o.mono ?_;rintro e ae ⟨c,rfl,D,hx⟩;clear v cg N;by_cases q:c=0
   .subst q;have E:=qqh (D rfl);clear D hx;go_wp2_with fail
    go_roundg (gk-1)
    case measure=>omega
    case rel=>exact⟨j+1,oM,by go_num,rfl,E.o⟩
   .have af:(c==0)=false:=by simpa using q
    have V:=Y2 q (hx q);clear D hx q;go_wp2_with fail
    try rw[qxr]
    go_ret
    exact⟨c,rfl,fun h=>absurd h V.o.1,fun _=>V.o.2⟩
  .obtain rfl:j=n:=oM;have a6:¬((j:Int)<(j:Int)):=oM;have E:=qqh p;clear p;go_wp2_with fail
   try rw[qxr]
   go_ret
   exact⟨0,rfl,fun _=>E.o,fun h=>absurd rfl h⟩
def sizeN(sl jo pa lo:Nat):Nat:=1+2*pa+jo+lo+lo+lo+sl
def sg(F G:List Bk)(z bl:Nat):Int:=if F.length=z/\G.length=bl then 0 else 22
theorem Zcg09{P:Prop}(h:P:=by
  go_quiet((go_at_call 78;(first|with_reducible exact Calls.quiet_of_same (s.o.1 _)|with_reducible exact Calls.quiet_of_same (s.o.2 _))))
  have D:=W.o.trans ((uur (fun _=>False) w1).drewN nq);generalize w1.drewN nq=ad at*;go_wp2
  go_ret
  exact⟨rfl,D⟩):P:=h
theorem SD{T:Nat->Prop}{L:Nat}{G:List Bk}{Q:List (Nat×Bk)}{R:List Int}(h:Dv S w b F O P)(Z:Dv T w L G Q R)(id:Int)(bl sl k p q a6:Nat):
  Calls prog 46 #[.agg (superC id bl sl k p q a6).toArray,.agg (layC sl k p q).toArray,.pointer (some ⟨b,0,none⟩),.pointer (some ⟨L,0,none⟩)] w
   fun e w'=>e=.returned (.int .i64 (sg F G (sizeN sl k p q) bl))/\Upd (fun _=>False) w w':=by
 obtain⟨M,N⟩:=qqe (superC id bl sl k p q a6);obtain⟨U,V⟩:=qqe (layC sl k p q);obtain⟨w1,v⟩:=qqe ((w.alloc (.cells M.toArray 44)).alloc (.cells U.toArray 73));have E:Upd (fun _=>False) w w1:=by rw[v];exact((uur _ w).alloc _).alloc _
 have a7:w1.heap[w.heap.size]?=some (.cells M.toArray 44):=by
  rw[v];exact(((uur (fun _=>False) (w.alloc (.cells M.toArray 44))).alloc (.cells U.toArray 73))).j4 (zc w _ rfl)
 have a8:w1.heap[w.heap.size+1]?=some (.cells U.toArray 73):=by rw[v];exact zc _ _ oe
 have af:w1.cell? ⟨w.heap.size,1,none⟩=some (.int .i64 (bl:Int)):=by rw[za a7,N];simp[superC]
 have ag:w1.cell? ⟨w.heap.size+1,6,none⟩=some (.int .i64 ((sizeN sl k p q:Nat):Int)):=by rw[za a8,V];simp[layC,sizeN]
 have aa:∀j,Calls prog 78 #[.pointer (some ⟨b,0,none⟩)] (w1.drewN j) fun e w'=>e=.returned (.int .i64 (F.length:Int))/\w'=w1.drewN j:=fun j=>qn (h.new (E.trans ((uur (fun _=>False) w1).drewN j)));have ab:∀j,Calls prog 78 #[.pointer (some ⟨L,0,none⟩)] (w1.drewN j) fun e w'=>e=.returned (.int .i64 (G.length:Int))/\w'=w1.drewN j:=fun j=>qn (Z.new (E.trans ((uur (fun _=>False) w1).drewN j)));have s:=Y2 aa ab;have W:=qqh E;have ae:=qqh v;obtain⟨X,H⟩:=qqe (sg F G (sizeN sl k p q) bl);rw[<-N,<-V,<-H];unfold sg at H;generalize sizeN sl k p q=z at*;generalize F.length=f at*;generalize G.length=g at*;have Y:=qqh H;clear h Z aa ab E v a7 a8 N V H;go_enter func46,ntmps46
 go_wp2_with fail
 rw[<-ae.o];by_cases A:f=z
 .by_cases J:g=bl
  .have e:X=0:=by rw[Y.o,if_pos ⟨A,J⟩]
   subst A J e
   exact Zcg09
  .have e:X=22:=by rw[Y.o,if_neg (fun h=>J h.2)]
   have q1:¬(g:Int)=(bl:Int):=oM;have q2:((g:Int)==(bl:Int))=false:=by simpa using q1
   subst A e;clear J
   exact Zcg09
 .have e:X=22:=by rw[Y.o,if_neg (fun h=>A h.1)]
  have q1:¬(f:Int)=(z:Int):=oM;have q2:((f:Int)==(z:Int))=false:=by simpa using q1
  subst e;clear A
  go_quiet((go_at_call 78;(first|with_reducible exact Calls.quiet_of_same (s.o.1 _)|with_reducible exact Calls.quiet_of_same (s.o.2 _))))
  have D:=W.o.trans ((uur (fun _=>False) w1).drewN nq);generalize w1.drewN nq=ad at*;go_wp2
  go_ret
  exact⟨rfl,D⟩
def yY(F:List Bk)(O:List (Nat×Bk))(l:List Bool):List Bk:=(l.zip O).foldl (fun F p=>if p.1=true then F.set p.2.1 p.2.2 else F) F
theorem SE{p:Type}{O:List p}{k:Nat}(h:k<l.length)(j:l.length<=O.length):(l.take (k+1)).zip O=(l.take k).zip O++[(l[k],O[k]'oM)]:=by
 induction l generalizing O k with
 |nil=>simp at h
 |cons a l q=>
  cases O with
  |nil=>simp at j
  |cons o O=>
   cases k with
   |zero=>simp
   |succ k=>
    have:=q (O:=O) (k:=k) (by simpa using h) (by simpa using j);simp only[List.take_succ_cons,List.zip_cons_cons,qxz,qys];rw[this]
theorem XP{k:Nat}(h:k<l.length)(j:l.length<=O.length):
  yY F O (l.take (k+1))=if l[k]=true then(yY F O (l.take k)).set (O[k]'oM).1 (O[k]'oM).2 else yY F O (l.take k):=by
 unfold yY;rw[SE h j,List.foldl_append];rfl
theorem yZ(F:List Bk)(O:List (Nat×Bk))(l:List Bool):(yY F O l).length=F.length:=by
 unfold yY
 induction l.zip O generalizing F with
 |nil=>rfl
 |cons j k h=>
  simp only[List.foldl_cons];rw[h];split<;>simp
abbrev zbM(l:List Bool):List Value:=l.map Value.bool
theorem DvGood.crashed(h:DvGood F O P):DvGood F [] []:={h with o64:=oe,ol:=oe,pl:=by simp}
theorem SF(h:Dv S w b F O P){ak:Value}(a6:Rd w 1 ak l.length (zbM l))(aD:l.length<=O.length):
  Calls prog 75 #[.pointer (some ⟨b,0,none⟩),ak] w fun e w'=>∃am,e=.returned (.tuple #[.pointer (some ⟨am,0,none⟩),.int .i64 0])/\Dv (fun k=>w.heap.size<=k) w' am (yY F O l) [] []/\Below w.heap.size w w':=by
 obtain⟨b3,vo,b4,h,-⟩:=h;obtain⟨aE,c1,-⟩:=h.c;obtain⟨aF,an,rfl⟩:=h.os.rd.j6;obtain⟨b5,ck,rfl⟩:=a6.j6;have b6:=h.good.ol;have b7:b<w.heap.size:=zd h.str;have aG:=qqh (XO h.fs.rd (by have:=h.good.fl;omega) (QF F));have ab:=Y2 h a6;have b8:(l.length:Int)<=(O.length:Int):=oM;clear h a6;go_enter func75,ntmps75
 go_wp2_with fail
 refine aG.out.mono ?_;rintro e w1 ⟨b9,rfl,L,ad,a7⟩;obtain⟨a1,G,rfl⟩:=L.rd.j6;have ao:=uuo (S:=fun _=>False) a7;have U:=Y3 L ad a7;clear L ad a7 aE;obtain⟨V,W⟩:=qqe (w1.alloc (.cells #[(.slice a1 F.length G),.slice none 0 0,.slice none 0 0] 89));have aH:=qqh W;have ap:DvAt V w1.heap.size (.slice a1 F.length G) (.slice none 0 0) (.slice none 0 0) F [] []:=by
  have aI:Upd (fun _=>False) w1 V:=by rw[W];exact(uur _ _).alloc _
  obtain⟨L,ad,a7⟩:=U.o;exact⟨by rw[W];exact zc _ _ rfl,L.keep aI (fun _ _ h=>h),Sl.nil _ _ _,Sl.nil _ _ _,ab.o.1.good.crashed,fun e=>by have:=L.lt e;omega,(by simp[Value.ownBlock]),(by simp[Value.ownBlock]),(Dis.nil _ _ _).symm,(Dis.nil _ _ _).symm,Dis.nil _ _ _⟩
 have aq:Upd (fun _=>False) w V:=by rw[W];exact ao.alloc _
 have ar:=Y2 ap aq;clear ao ap aq W;go_wp2
 rw[<-aH.o];go_loopw[28] (fun i wr=>∃j:Nat,j<=l.length/\i=.int .i64 j/\DvAt wr w1.heap.size (.slice a1 F.length G) (.slice none 0 0) (.slice none 0 0) (yY F O (l.take j)) [] []/\Upd (fun k=>(Value.slice a1 F.length G).ownBlock=some k) V wr)
  (fun i _=>l.length-(intOf i).toNat)
 case atStart=>exact⟨0,qXz _,rfl,ar.o.1,uur _ _⟩
 case round=>
  obtain⟨j,a6,rfl,A,M⟩:=hrel;have N:∀k,(Value.slice a1 F.length G).ownBlock=some k->w.heap.size<=k:=fun k D=>U.o.2.1 k D;have X:Upd (fun k=>w.heap.size<=k) w wr:=(ar.o.2.mono fE).trans (M.mono (fun k _ D=>N k D));have E:Below w.heap.size w wr:=Upd.below ((uur (fun _=>False) w).new X (fun i ba a8=>oM));by_cases hlt:j<l.length
  .have au:=ab.o.2.below E;obtain⟨bb,bc,bd,p,-,av⟩:=au.at oM;cases p;have aw:=av j (.bool l[j]) (by rw[qyn,qyk hlt];rfl);have ae:=XP (F:=F) hlt aD;obtain⟨t,ax⟩:=qqe (l[j]);rw[<-ax]at aw ae;have af:=qqh ae;clear av ae au ax;cases t with
   |false=>
    have Y:=Y2 A M;clear A M X N E;go_wp2
    go_roundw
    case rel=>exact⟨j+1,oM,by go_num,by rw[af.o];exact Y.o.1,Y.o.2⟩
    case measure=>simp[intOf];omega
   |true=>
    have ay:j<O.length:=oM;have ag:=ab.o.1;obtain⟨H,T,aJ,p,aK,aL,ah⟩:=ag.opRange ay;obtain⟨rfl,rfl⟩:aF=some ⟨H,T,none⟩/\an=aJ:=by injection p with p _ aa;exact⟨p,aa⟩
    clear p;have az:=ag.good.o64 O[j] (qyv ay);obtain⟨q,x,aM⟩:∃q x,O[j]=(q,x):=⟨_,_,rfl⟩
    rw[aM]at az ah af;obtain⟨hx,a8⟩:=az;obtain⟨v,J,be,p,aN,aO,aP,aQ⟩:=A.kJ (show q<(yY F O (l.take j)).length by rw[yZ];exact a8);have bf:=E.size;have q1:=X.j3 c1 oM;have q2:=(uuo (S:=fun _=>False) E).range ah id;have aR:wr.rangeAt H (T+j*65+1) (bkC x):=fun k aS hv=>by
     have:=q2 (1+k) aS jv;rw[<-this];congr 2;omega
    have aT:wr.cell? ⟨H,T+j*65,none⟩=some (.int .i64 (q:Int)):=q2 0 _ rfl;obtain⟨aA,-,-⟩:=A.c;have bg:¬H=v:=fun e=>by have:=N v (by rw[p]at*;simp[Value.ownBlock]);omega
    have bh:¬b=v:=fun e=>by have:=N v (by rw[p]at*;simp[Value.ownBlock]);omega
    have aU:¬w1.heap.size=v:=fun e=>by have:=U.o.1.lt (g:=v) (by rw[p];simp[Value.ownBlock]);omega
    have ai:=Y2 A M;have aV:=qqh p;have bi:=underlying60;have bj:=zu x hx;have bn:(bkC x).length=64:=by rw[zm,hx]
    have bp:=zx x;rw[yZ]at p;cases p;have bq:0<=(q:Int):=oM;have br:(q:Int)<F.length:=oM;have bs:(j:Int)<O.length:=oM;obtain⟨m,aj⟩:=qqe (w1.heap.size);rw[<-aj]at aA aU⊢;have aW:=qqh aj;clear A M X N E ah q2 aQ aP ag aK aN aj aO aL;have aX:=(ai.o.1.kJ (show q<(yY F O (l.take j)).length by rw[yZ];exact a8))
    obtain⟨bt,bu,bv,aa,-,-,-,aY⟩:=aX;have aZ:=aV.out.symm.trans aa;cases aZ;clear aa;go_upto_region 10 with fail
    clear aw
    go_region_held3 (fun Z=>Z.cell? ⟨m,0,none⟩=some (.slice (some ⟨v,J,none⟩) F.length G)/\Z.cell? ⟨b,1,none⟩=some (.slice (some ⟨H,T,none⟩) O.length an)/\Z.cell? ⟨H,T+j*65,none⟩=some (.int .i64 (q:Int))/\Z.rangeAt H (T+j*65+1) (bkC x)/\Z.there v (J+q*64) 64)
     ((go_split_ands;(simp only[qYk,World.there_drew,qYi]at*);((repeat' constructor)<;>first|assumption|(apply World.there_setCells;assumption)|(refine zN ?_ ?_<;>assumption)|(refine World.rangeAt_setCells_apart (by assumption) _ _ _ oM))))
     (fail)
    rename_i b0
    clear b0 q1 aR aT aA aY;have aB:DvAt (wr.drew.setCells v (J+q*64) (bkC x)) w1.heap.size (.slice (some ⟨v,J,none⟩) F.length G) (.slice none 0 0) (.slice none 0 0) (yY F O (l.take (j+1))) [] []:=by
     have h2:=ai.o.1.new ((uur (fun _=>False) _).drew);rw[<-yZ F O (l.take j)]at h2;have:=h2.setFirm (s:=q) (x:=x) (by rw[yZ];exact a8) hx;rw[yZ]at this;rw[af.o,if_pos rfl];exact this
    have aC:Upd (fun k=>(Value.slice (some ⟨v,J,none⟩) F.length G).ownBlock=some k) V (wr.drew.setCells v (J+q*64) (bkC x)):=
     ai.o.2.drew.trans ((zn wr.drew v (J+q*64) (bkC x)).mono (fun k _ e=>by simp[Value.ownBlock,e]))
    have Y:=Y2 aB aC;clear aB aC;go_wp2
    go_roundw
    case rel=>exact⟨j+1,oM,by go_num,by rw[aW.o];exact Y.o.1,Y.o.2⟩
    case measure=>simp[intOf];omega
  .obtain rfl:j=l.length:=oM;rw[List.take_length]at A;have b1:=Y2 A E;clear A X M N E;go_wp2
   go_ret2
   obtain⟨A,E⟩:=b1.o;have b2:=U.o.2.2.size;refine⟨w1.heap.size,rfl,⟨_,_,_,A,?_⟩,E⟩;rintro k (rfl|D|D|D)
   .exact b2
   .exact U.o.2.1 k D
   .cases D
   .cases D
end
end Go.Proofs.YtpejdgiccaijfaaGreatDoor
