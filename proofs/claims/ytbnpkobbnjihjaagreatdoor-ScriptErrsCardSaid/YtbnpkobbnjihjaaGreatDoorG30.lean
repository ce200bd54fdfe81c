/- The journal: S -/
import Derived.Test.YtbnpkobbnjihjaaGreatDoorG28
import Derived.Test.YtbnpkobbnjihjaaGreatDoorG25
set_option maxRecDepth 100000
set_option maxHeartbeats 4000000
namespace Go.Proofs.YtbnpkobbnjihjaaGreatDoor
open Go Go.RowKit Tryz
variable{w w':World}{F:List Bk}{O:List (Nat×Bk)}{n:CaN}{own own':Nat->Nat}{v:Value}{b:Nat}
section
open Go.Shelf Go.Lib Go.Sort
def VZ(x y:List Nat):Int:=Lib.compareInt (rseq x:Nat) (rseq y:Nat)
theorem ltR(x y:List Nat):ltOf VZ x y=decide (rseq x<rseq y):=by
 unfold ltOf VZ Lib.compareInt;by_cases h1:rseq x<rseq y
 .simp [h1]
 .by_cases h2:rseq y<rseq x<;>simp[h1,h2]
theorem zhr:SWO (ltOf VZ)where
 irrefl x:=by rw[ltR];simp
 trans x y z h1 h2:=by rw[ltR]at*;simp at*;omega
 ntrans x y z h1 h2:=by rw[ltR]at*;simp at*;omega
theorem zfH(x y:List Nat)(W:World):Calls prog 179 #[.agg (recCs x).toArray,.agg (recCs y).toArray] W fun e w'=>e=.returned (.int .i64 (VZ x y))/\∃k p,w'=Go.Sort.grow (W.drewN k) p:=by
 have h:=fun j=>AnyG.cmp_Compare_int Eh (rseq x:Nat) (rseq y:Nat) j
 change∀j,Calls prog 180 _ _ _ at h
 have hx:recCs x=[.int .i64 (rseq x:Nat),.int .i64 ((natsI x).getD 1 0),.int .i64 ((natsI x).getD 2 0),.int .i64 ((natsI x).getD 3 0),.int .i64 ((natsI x).getD 4 0),.bool ((natsI x).getD 5 0==1),.int .i64 ((natsI x).getD 6 0)]:=by
  unfold recCs dsR;rw[yJ x 0];rfl
 have hy:recCs y=[.int .i64 (rseq y:Nat),.int .i64 ((natsI y).getD 1 0),.int .i64 ((natsI y).getD 2 0),.int .i64 ((natsI y).getD 3 0),.int .i64 ((natsI y).getD 4 0),.bool ((natsI y).getD 5 0==1),.int .i64 ((natsI y).getD 6 0)]:=by
  unfold recCs dsR;rw[yJ y 0];rfl
 rw[hx,hy];unfold VZ;generalize Lib.compareInt (rseq x:Nat) (rseq y:Nat)=r at h⊢;clear hx hy;go_enter func179,ntmps179
 go_wp2_with (go_at_call 180;refine(h _).mono ?_;rintro e w' ⟨rfl,rfl⟩)
 go_ret
 exact⟨rfl,0,_,by rw[alloc_eq_grow,alloc_eq_grow,grow_grow];rfl⟩
theorem zdP(w:World):(isAgg 273).run prog w=.ok true w:=kR
theorem zbp(w:World):(Go.sizeOf 273).run prog w=.ok 7 w:=kR
def Ew(w:World)(v:Value)(L:List (List Nat))(e:Ending)(w':World):Prop:=
 e=.returned (.tuple #[])/\∃L':List (List Nat),L'.Perm L/\L'.Pairwise (fun x y=>rseq x<=rseq y)/\Sl w' 273 7 v L.length (L'.flatMap recCs)/\Upd (ownS v) w w'
theorem Zcg30{P:Prop}(h:P:=by
  have E:d.extract 0 L.length=d:=by rw[<-k,Array.extract_size]
  have G:L.toArray.extract 0 L.length=L.toArray:=by rw[show L.length=L.toArray.size from by simp,Array.extract_size]
  rw[E,G]at j;exact j):P:=h
theorem Wt{L:List (List Nat)}{d:Array (List Nat)}(A:PermIn 0 L.length L.toArray d)(D:SortedIn (ltOf VZ) 0 L.length d):d.size=L.length/\d.toList.Perm L/\d.toList.Pairwise (fun x y=>rseq x<=rseq y):=by
 obtain⟨h1,-,j⟩:=A;have k:d.size=L.length:=by simpa using h1
 refine⟨k,?_,?_⟩
 .exact Zcg30
 .rw [qzz];intro i p q s H;simp only[qxh]at q s;have:=D i p (qXz _) H oM;rw[ltR,getElem!_pos d i q,getElem!_pos d p s]at this;simp only[Array.getElem_toList];exact Nat.le_of_not_lt (of_decide_eq_false this)
theorem Ri{L:List (List Nat)}(h:Sl w 273 7 v L.length (L.flatMap recCs))(S:L.length<=1024):
  Calls prog 178 #[v,.func (.func 179) #[] #[]] w (Ew w v L):=by
 have q:∀p w,(callFunc 179 p).run prog w=.ok (.enter 179 p) w:=enters_of func179 kR rfl;have s:=h;obtain⟨-,⟨rfl,A⟩|⟨g,D,E,T,rfl,G,-⟩⟩:=s
 .obtain rfl:=qyb A;refine(QU _ w).mono ?_;rintro e w' ⟨rfl,rfl⟩;exact⟨rfl,[],List.Perm.refl _,List.Pairwise.nil,Sl.nil _ _ _,uur _ _⟩
 .have j:=AnyQ.slices_SortFunc To 7 zdP zbp recCs (fun _=>rfl) (fun x=>wN (natsI x)) VZ zhr 179 #[] g D E L.toArray w q (fun m os U _ x y=>zfH x y _) (Wn (enc:=recCs) (k:=7) (fun _=>rfl) de h) (zd G) og;simp only[qXh]at j
  change Calls prog 178 _ _ _ at j
  refine j.mono ?_;rintro e w' ⟨rfl,d,n,os,H,J,rfl⟩;obtain⟨K,M,N⟩:=Wt H J;obtain⟨Q,R⟩:=Zt (enc:=recCs) (k:=7) (fun _=>rfl) de h d K n os;exact⟨rfl,d.toList,M,N,Q,R.mono (fun V _ e=>e▸rfl)⟩
def zbq(S:Nat->Prop)(w:World)(b:Nat)(F:List Bk)(O:List (Nat×Bk))(base n:Nat)(e:Ending)(w':World):Prop:=
 ∃(v:Value) (L:List (List Nat)),e=.returned (.tuple #[v,.int .i64 0])/\L.Perm (scanTo F O base n n)/\L.Pairwise (fun x y=>rseq x<=rseq y)/\Sl w' 273 7 v L.length (L.flatMap recCs)/\From w.heap.size v/\Dv (fun j=>S j/\∀g,v.ownBlock=some g->g≠j) w' b F O []/\Upd S w w'
theorem zfI{S:Nat->Prop}(D:Dv S w b F O [])(M:∀j,w.heap.size<=j->S j)(base n:Nat)(aG:1<=n)(U:n<=1024)(av:base+n<=F.length)(E:Nib w)(N:¬S 1):
  Calls prog 103 #[.pointer (some ⟨b,0,none⟩),.int .i64 (base:Int),.int .i64 (n:Int)] w (zbq S w b F O base n):=by
 have aH:=D.good.fl;obtain⟨w1,G⟩:=qqe (((w.alloc (.cells #[.pointer (some ⟨b,0,none⟩)] 31)).alloc (.cells #[.int .i64 (base:Int)] 3)).alloc (.cells #[.int .i64 (n:Int)] 3));obtain⟨k,s⟩:=qqe (w.heap.size);have A:Upd (fun _=>False) w w1:=by rw[G];exact(((uur _ w).alloc _).alloc _).alloc _
 have ae:w1.heap.size=k+3:=by rw[G,s];simp
 have af:w1.heap[k]?=some (.cells #[.pointer (some ⟨b,0,none⟩)] 31 (0,0)):=by rw[G,s];exact(qxk _ _ _ jO).trans ((qxk _ _ _ oe).trans (zc w _ rfl))
 have V:w1.heap[k+1]?=some (.cells #[.int .i64 (base:Int)] 3 (0,0)):=by rw[G,s];exact(qxk _ _ _ oe).trans (zc _ _ oe)
 have W:w1.heap[k+2]?=some (.cells #[.int .i64 (n:Int)] 3 (0,0)):=by rw[G,s];exact zc _ _ oe
 obtain⟨ag,H⟩:=qqe (w1.alloc (.cells #[.slice none 0 0] 185));have p:=qqu H;have X:ag.heap.size=k+4:=by rw[H];simp;omega
 have aw:ag.heap[k+3]?=some (.cells #[.slice none 0 0] 185 (0,0)):=by rw[H];exact zc w1 _ ae.symm
 have aI:=qqh (UK (D.new A) base n aG U av aH);have aJ:=qqh (SI base n U oM ag);have aK:=za af 0;have c1:=za V 0;have c2:=za W 0;have ax:=s;have ah:=qqh ax;have ay:=p.jV af;have ai:=p.jV V;have aj:=p.jV W;have az:=wj F O base n n;have J:=Y12 D M E N A p X ay ai aj aw az;have aL:(w1.alloc (.cells #[.slice none 0 0] 185)).cell? ⟨k+1,0,none⟩=some (.int .i64 (base:Int)):=by rw[<-H];exact za ai 0
 have aM:(w1.alloc (.cells #[.slice none 0 0] 185)).cell? ⟨k+1+1,0,none⟩=some (.int .i64 (n:Int)):=by rw[<-H];exact za aj 0
 have aN:w1.cell? ⟨k+1,0,none⟩=some (.int .i64 (base:Int)):=za V 0;have aO:w1.cell? ⟨k+1+1,0,none⟩=some (.int .i64 (n:Int)):=za W 0;have aA:=Y2 G H;have aP:=qqh ae;clear D M E N A p X af V W ay ai aj aw H G aK c1 c2 s ax ae az;go_enter func103,ntmps103
 go_wp2_with fail
 rw[<-aA.o.1,<-ah.o];refine aI.o.mono ?_;rintro e w' ⟨rfl,rfl⟩;go_wp2_with fail
 rw[<-aA.o.2,aP.o];refine aJ.o.mono ?_;rintro e Y ⟨g,rfl,Q,ak,am⟩;have z3:=am.size;have q:=uuo (S:=fun _=>False) am;have aB:=q.jV (J.o.2.2.2.2.2.2.2.1);have q1:=q.jV (J.o.2.2.2.2.2.2.2.2.1);have q2:=q.jV (J.o.2.2.2.2.2.2.2.2.2.1);have aC:=q.jV (J.o.2.2.2.2.2.2.2.2.2.2.1);have an:Calls prog 174 #[.slice (some ⟨g,0,none⟩) n n,.func (.func 176) #[] #[.pointer (some ⟨k,0,none⟩),.pointer (some ⟨k+2,0,none⟩),.pointer (some ⟨k+1,0,none⟩),.pointer (some ⟨k+3,0,none⟩)]] Y fun e w'=>
   e=.returned (.int .i64 0)/\ScI (fun j=>(S j/\j<k)\/Y.heap.size<=j) Y b (k+3) F O (scanTo F O base n n) w':=by
  obtain⟨D,M,E,N,A,p,X,-⟩:=J.o;have s:=ah.o;have aY:=zd Q;have aQ:Dv (fun j=>S j/\j<k) Y b F O []:=(((D.kw (T:=fun j=>S j/\j<k) (fun j h1 h2=>⟨h1,oM⟩)).new A).new p).new q;refine zdN ⟨uur _ _,.slice none 0 0,fun j=>S j/\j<k,aC,Sl.nil _ _ _,From.nil _ _ _,aQ,fun j h=> .inl h,fun j h=>oM,fun g h=>by cases h⟩ (fun j h=> .inr h) ⟨oM,by intro h;omega⟩ ⟨za aB 0,by intro h;omega,oM⟩ ⟨za q2 0,by intro h;omega,oM⟩ ⟨za q1 0,by intro h;omega,oM⟩ ⟨Q,by intro h;omega,oM⟩ U av (((E.keep A id).keep p id).keep q id) ⟨fun h=>?_,?_⟩
  .rcases h with h|h
   .exact N h.1
   .have:=E.lt;omega
  .have:=E.lt;omega
 have an:=qqh an;have aR:=Y3 q ak z3;clear aB q1 q2 aC Q q z3 ak am aL aM aN aO;go_wp2_with fail
 refine an.o.mono ?_;rintro e aZ ⟨rfl,aS⟩;obtain⟨Z,v,b0,a6,ao,K,a7,a8,ap,R⟩:=aS;obtain⟨aa,ab,rfl⟩:=ao.rd.jW;have aD:=za a6 0;have aT:=qqh (Ri ao (qXr J.o.2.2.2.2.2.2.2.2.2.2.2 U));have aU:=Y7 Z a6 K a7 a8 ap R;clear Z a6 ao K a7 a8 ap R;go_wp2_with fail
 refine aT.out.mono ?_;rintro e aq ⟨rfl,aV,ar,aE,aF,ad⟩;have au:(Dv (fun j=>S j/\∀g,(Value.slice aa (scanTo F O base n n).length ab).ownBlock=some g->g≠j) aq b F O []/\Upd S w aq)/\(From w.heap.size (.slice aa (scanTo F O base n n).length ab)/\aq.cell? ⟨k+3,0,none⟩=some (.slice aa (scanTo F O base n n).length ab)):=by
  obtain⟨D,M,E,N,A,p,X,-⟩:=J.o;obtain⟨q,ak,z3⟩:=aR.o;obtain⟨Z,a6,K,a7,a8,ap,R⟩:=aU.o;have s:=ah.o;refine⟨⟨?_,?_⟩,K.mono oM,?_⟩
  .refine (a7.keep ad (fun j h1 h2=>R j h2 h1)).wide (fun j h=>⟨?_,fun g Q e=>R g Q (e▸h)⟩);rcases a8 j h with h|h
   .exact h.1
   .exact M j oM
  .refine ((((A.trans p).mono fE).trans (q.mono fE)).new Z (fun j aW h=>?_)).new ad (fun j aW h=>?_)
   .rcases h with(h|h)|h
    .exact h.1
    .omega
    .omega
   .have:=K j h;omega
  .refine ad.jU aD (fun h=>?_);have:=K _ h;omega
 have b1:=au.2.2;have L:=Y4 au ar aE aF;have aX:=ar.length_eq;clear au ar aE aF ad aD;go_wp2_with fail
 refine qYq (v:=.tuple #[.slice aa (scanTo F O base n n).length ab,.int .i64 0]) (by simp[results,results103,go_sem]) rfl ?_;exact⟨_,aV,rfl,L.out.2.1,L.out.2.2.1,by rw[aX];have:=L.out.2.2.2;exact this,L.out.1.2.1,L.out.1.1.1,L.out.1.1.2⟩
def Ua(x y:EI):Int:=Lib.compareInt x.b y.b
theorem ltE(x y:EI):ltOf Ua x y=decide (x.b<y.b):=by
 unfold ltOf Ua Lib.compareInt;by_cases h1:x.b<y.b
 .simp [h1]
 .by_cases h2:y.b<x.b<;>simp[h1,h2]
theorem zhs:SWO (ltOf Ua)where
 irrefl x:=by rw[ltE];simp
 trans x y z h1 h2:=by rw[ltE]at*;simp at*;omega
 ntrans x y z h1 h2:=by rw[ltE]at*;simp at*;omega
theorem zdQ(x y:EI)(W:World):Calls prog 182 #[.agg x.cs.toArray,.agg y.cs.toArray] W fun e w'=>e=.returned (.int .i64 (Ua x y))/\∃k p,w'=Go.Sort.grow (W.drewN k) p:=by
 have h:=fun j=>AnyG.cmp_Compare_int Eh x.b y.b j
 change∀j,Calls prog 180 _ _ _ at h
 obtain⟨a,b,c,d⟩:=x;obtain⟨q,s,A,D⟩:=y;unfold Ua EI.cs;dsimp only at h⊢;generalize Lib.compareInt a q=r at h⊢;go_enter func182,ntmps182
 go_wp2_with (go_at_call 180;refine(h _).mono ?_;rintro e w' ⟨rfl,rfl⟩)
 go_ret
 exact⟨rfl,0,_,by rw[alloc_eq_grow,alloc_eq_grow,grow_grow];rfl⟩
theorem zdR(w:World):(isAgg 132).run prog w=.ok true w:=kR
theorem zbr(w:World):(Go.sizeOf 132).run prog w=.ok 4 w:=kR
def Ex(w:World)(v:Value)(L:List EI)(e:Ending)(w':World):Prop:=
 e=.returned (.tuple #[])/\∃L':List EI,L'.Perm L/\L'.Pairwise (fun x y=>x.b<=y.b)/\Sl w' 132 4 v L.length (L'.flatMap EI.cs)/\Upd (ownS v) w w'
theorem YA{L:List EI}{d:Array EI}[Inhabited EI](A:PermIn 0 L.length L.toArray d)(D:SortedIn (ltOf Ua) 0 L.length d):d.toList.Perm L/\d.size=L.length/\d.toList.Pairwise (fun x y=>x.b<=y.b):=by
 obtain⟨h1,-,j⟩:=A;have k:d.size=L.length:=by simpa using h1
 refine⟨?_,k,?_⟩
 .exact Zcg30
 .rw [qzz];intro i p q s H;simp only[qxh]at q s;have:=D i p (qXz _) H oM;rw[ltE,getElem!_pos d i q,getElem!_pos d p s]at this;simp only[Array.getElem_toList];exact Int.not_lt.1 (of_decide_eq_false this)
instance:Inhabited EI:=⟨EI.zero⟩
theorem Rj{L:List EI}(h:Sl w 132 4 v L.length (L.flatMap EI.cs))(S:L.length<=1048576):
  Calls prog 181 #[v,.func (.func 182) #[] #[]] w (Ex w v L):=by
 have q:∀p w,(callFunc 182 p).run prog w=.ok (.enter 182 p) w:=enters_of func182 kR rfl;have s:=h;obtain⟨-,⟨rfl,A⟩|⟨g,D,E,T,rfl,G,-⟩⟩:=s
 .obtain rfl:=qyb A;refine(QV _ w).mono ?_;rintro e w' ⟨rfl,rfl⟩;exact⟨rfl,[],List.Perm.refl _,List.Pairwise.nil,Sl.nil _ _ _,uur _ _⟩
 .have j:=AnyQ.slices_SortFunc Tp 4 zdR zbr EI.cs (fun _=>rfl) EI.one Ua zhs 182 #[] g D E L.toArray w q (fun m os U _ x y=>zdQ x y _) (Wn (enc:=EI.cs) (k:=4) (fun _=>rfl) de h) (zd G) og;simp only[qXh]at j
  change Calls prog 181 _ _ _ at j
  refine j.mono ?_;rintro e w' ⟨rfl,d,n,os,H,J,rfl⟩;obtain⟨K,M,N⟩:=YA H J;obtain⟨Q,R⟩:=Zt (enc:=EI.cs) (k:=4) (fun _=>rfl) de h d M n os;exact⟨rfl,d.toList,K,N,Q,R.mono (fun V _ e=>e▸rfl)⟩
end
section
open Go.Shelf Go.Lib
theorem zbs(w:World):(zeroValue 132).run prog w=.ok EI.zero.enc w:=kR
theorem YB:(prog.info? 132).map (·.size)=some 4:=kR
theorem zdS(b s:Int)(d:Bool)(x:Int)(W:World):(Instr.build 132 #[(0,.int .i64 b),(1,.int .i64 s),(2,.bool d),(3,.int .i64 x)]).run prog W=.ok (.agg #[.int .i64 b,.int .i64 s,.bool d,.int .i64 x]) W:=by
 kernel_rfl
def zfJ(w:World)(l:List EI)(rs:List (List Int))(e:Ending)(w':World):Prop:=
 ∃(v:Value) (L:List EI) (c:Int),e=.returned (.tuple #[v,.int .i64 c])/\Sl w' 132 4 v L.length (L.flatMap EI.cs)/\From w.heap.size v/\Below w.heap.size w w'/\
  ((c=12/\L=[]/\(¬(l.map EI.b).Nodup\/∃L0,Lists (apRs (apM l) rs) L0/\¬(L0.map EI.s).Nodup))\/
   (c=0/\(l.map EI.b).Nodup/\Lists (apRs (apM l) rs) L/\(L.map EI.s).Nodup/\L.Pairwise (fun x y=>x.b<y.b)))
theorem zdT{u:Value}{l:List EI}{rs:List (List Int)}(ab:Rd w 4 v l.length (l.flatMap EI.cs))(aH:Rd w 7 u rs.length (rs.flatMap dsR))(dn:l.length<=65536)(dp:rs.length<=65536)
  (bX:∀e∈l,AE e.b/\AE e.s) (bY:∀r∈rs,AE (r.getD 3 0)/\AE (r.getD 4 0)):
  Calls prog 105 #[v,u] w (zfJ w l rs):=by
 obtain⟨dq,dr,rfl⟩:=ab.jW;obtain⟨ds,dt,rfl⟩:=aH.jW;have bd:= @run_makeMap prog;obtain⟨Z,aA⟩:=qqe (w.heap.size);obtain⟨w1,aI⟩:=qqe (w.alloc (.map #[] 0));have bZ:Below w.heap.size w w1:=by rw[aI];exact(qxl _ w).alloc (qXp _) _
 have aV:MapG EI.enc w1 Z 0 (apM []):=by rw[aI,aA];exact MapG.made w
 have c0:w1.heap.size=Z+1:=by rw[aI,aA];simp
 have U:=Y2 aI aA;have ad:=Y7 ab aH bX bY bZ aV c0;clear ab aH bX bY bZ aV c0 aI aA;go_enter func105,ntmps105
 go_wp2_with fail
 rw[<-U.o.1,<-U.o.2];clear bd;go_loopg[20] l.length (fun gk cV wr=>∃j:Nat,j+gk=l.length/\cV=.int .i64 (j:Int)/\MapG EI.enc wr Z j (apM (l.take j))/\((l.take j).map EI.b).Nodup/\Below w.heap.size w wr)
 case atStart=>exact⟨0,oM,rfl,ad.o.2.2.2.2.2.1,qzx,ad.o.2.2.2.2.1⟩
 case round=>
  obtain⟨j,be,rfl,K,aB,q⟩:=hrel;by_cases hlt:j<l.length
  .have cW:(j:Int)<(l.length:Int):=oM;have cX:(0:Int)<=(j:Int):=oM;obtain⟨g,o,cY,e,bf,aJ⟩:=ad.o.1.at oM;cases e;have hx:=xY (enc:=EI.cs) (m:=4) (fun _=>rfl) aJ hlt;have V:=ad.o.2.2.1 _ (qyu hlt);have E:=JI l hlt;have aW:= @VH l j hlt aB;have aX:= @QL l j hlt;obtain⟨x,aK⟩:=qqe (l[j]);rw[<-aK]at hx V E aW aX;have ar:wr.rangeAt g (o+j*4) x.cs:=Below.range q hx;obtain⟨cs,s⟩:=qqe (x.cs);rw[<-s]at ar;obtain⟨L,a6⟩:=qqe (wr.alloc (.cells cs.toArray 132));have au:=qqu a6;have S:L.heap[wr.heap.size]?=some (.cells x.cs.toArray 132 (0,0)):=by rw[a6,s];exact zc wr _ rfl
   obtain⟨W,T⟩:=qqe (wr.heap.size);rw[<-T]at S;have aY:L.cell? ⟨W,0,none⟩=some (.int .i64 x.b):=za S 0;have bg:=zf S;rw[<-s]at bg;have ae:=K.keep au id;have af:=ae.look EI.enc_inj underlying279 (zbs L) V.1.1 V.1.2;obtain⟨y,hy⟩:=qqe ((apM (l.take j) x.b).getD EI.zero);obtain⟨ok,bh⟩:=qqe ((apM (l.take j) x.b).isSome);rw[<-hy,<-bh]at af;rw[<-bh]at aW aX;unfold EI.enc at af;have bi:=y.one;have aZ:y.cs.length=4:=rfl;obtain⟨bj,bk⟩:=qqe (y.cs);rw[<-bk]at af bi aZ;have aL:=q.trans ((Upd.below au).mono q.size);have M:cs.length=4:=by rw[s];rfl
   have ag:∀v∈cs,v.oneCell'=true:=by rw[s];exact x.one
   have X:(prog.info? 132).map (·.size)=some cs.length:=by rw[M];exact YB
   have c3:(prog.info? 132).map (·.size)=some bj.length:=by rw[aZ];exact YB
   have HX:=Y4 M X ag bg;have bl:=Y4 aZ c3 bi bk;have aC:=Y3 a6 T s;have A:=Y7 ae aL E aW aX V aB;clear K aB q aJ hx V E aW aX aK s a6 au S T bg ae hy bh bi aZ bk aL M ag X c3 bf;go_wp2_with (first
    |(refine qZa rfl 132 _ rfl _ _ rfl _ _ ar underlying132 rfl HX.o.2.1 ?_)
    |(refine zk rfl _ _ _ rfl _ _ cs rfl rfl jL HX.o.2.1 HX.o.2.2.1 ?_;refine Stop.i ?_)
    |fail)
   rw[<-aC.o.1,<-aC.o.2.1];unfold Stop;clear ar;go_wp2_with (first
    |(refine zk rfl _ _ _ rfl _ _ bj rfl rfl (by rw[bl.o.1];rfl) bl.o.2.1 bl.o.2.2.1 ?_;refine Stop.i ?_)
    |fail)
   obtain⟨du,b0⟩:=qqe (L.alloc (.cells bj.toArray 132));rw[<-b0];have aD:=qqu b0;clear af;have c4:=aD.jU aY id;have cZ:=aD.range HX.o.2.2.2 id;have bn:=A.o.1.keep aD id;have b1:=A.o.2.1.trans ((Upd.below aD).mono A.o.2.1.size);clear aY;cases ok with
   |true=>
    have H:=Y2 b1 (A.o.2.2.2.2.1 rfl);clear bn b1 aD b0;unfold Stop;go_wp2_with fail
    refine qYq (v:=.tuple #[.slice none 0 0,.int .i64 12]) ja rfl ?_;exact⟨_,[],12,rfl,Sl.nil _ _ _,From.nil _ _ _,H.o.1,.inl ⟨rfl,rfl,.inl H.o.2⟩⟩
   |false=>
    obtain⟨aE,ah,ai,aj,z4⟩:=bn.store EI.enc_inj underlying279 A.o.2.2.2.2.2.1.1.1 A.o.2.2.2.2.2.1.1.2 x (show j<maxLen by unfold maxLen;omega);unfold EI.enc at ah;rw[<-aC.o.2.2]at ah;have dw:=A.o.1.lt;have ak:Below w.heap.size w aE:=zj b1 aj (qXp _) (fun am N=>by rw[N,U.o.2];exact qXp _);have H:=Y3 ai ak (A.o.2.2.2.1 rfl);clear bn b1 aD b0 ai aj z4 ak;unfold Stop;go_wp2_with (first
     |(refine qZa rfl 132 _ rfl _ _ rfl _ _ cZ underlying132 rfl HX.o.2.1 ?_)
     |fail)
    go_roundg (gk-1)
    case measure=>omega
    case rel=>
     refine⟨j+1,oM,by go_num,?_,H.o.2.2,H.o.2.1⟩;rw[A.o.2.2.1];exact H.o.1
  .obtain rfl:j=l.length:=oM;have cW:¬((l.length:Int)<(l.length:Int)):=oM;rw[qXj (qXp _)]at K aB;have aA:=U.o.2;obtain⟨c5,c6⟩:∃c5:World,c5=wr:=⟨_,rfl⟩
   rw[<-c6]at K q⊢;have bo:=Y3 K aB q;clear K aB q aA c6 be;go_wp2_with fail
   obtain⟨dx,d0⟩:∃x,x=gk:=⟨_,rfl⟩
   clear d0;go_loopg[39] rs.length (fun gk d1 wr=>∃j:Nat,j+gk=rs.length/\d1=.int .i64 (j:Int)/\MapG EI.enc wr Z (l.length+j) (apRs (apM l) (rs.take j))/\Below w.heap.size w wr)
   case atStart=>exact⟨0,oM,rfl,bo.o.1,bo.o.2.2⟩
   case round=>
    obtain⟨j,be,rfl,K,q⟩:=hrel;by_cases bp:j<rs.length
    .have d2:(j:Int)<(rs.length:Int):=oM;have cX:(0:Int)<=(j:Int):=oM;obtain⟨g,o,cY,e,bf,aJ⟩:=ad.o.2.1.at oM;cases e;have hx:=xY (enc:=dsR) (m:=7) (fun _=>rfl) aJ bp;have V:=ad.o.2.2.2.1 _ (qyu bp);have E:=QM (apM l) rs bp;obtain⟨x,aK⟩:=qqe (rs[j]);rw[<-aK]at hx V E;have ar:wr.rangeAt g (o+j*7) (dsR x):=Below.range q hx;obtain⟨cs,s⟩:=qqe (dsR x);rw[<-s]at ar;obtain⟨L,a6⟩:=qqe (wr.alloc (.cells cs.toArray 273));have au:=qqu a6;have S:L.heap[wr.heap.size]?=some (.cells (dsR x).toArray 273 (0,0)):=by rw[a6,s];exact zc wr _ rfl
     obtain⟨W,T⟩:=qqe (wr.heap.size);rw[<-T]at S;have aY:L.cell? ⟨W,2,none⟩=some (.int .i64 (x.getD 2 0)):=za S 2;have c4:L.cell? ⟨W,3,none⟩=some (.int .i64 (x.getD 3 0)):=za S 3;have d3:L.cell? ⟨W,4,none⟩=some (.int .i64 (x.getD 4 0)):=za S 4;have d4:L.cell? ⟨W,5,none⟩=some (.bool (x.getD 5 0==1)):=za S 5;have d5:L.cell? ⟨W,6,none⟩=some (.int .i64 (x.getD 6 0)):=za S 6;obtain⟨kd,bq⟩:∃y,y=x.getD 2 0:=⟨_,rfl⟩
     obtain⟨av,b2⟩:∃y,y=x.getD 3 0:=⟨_,rfl⟩
     obtain⟨aM,br⟩:∃y,y=x.getD 4 0:=⟨_,rfl⟩
     obtain⟨aN,bs⟩:∃y,y=(x.getD 5 0==1):=⟨_,rfl⟩
     obtain⟨aO,bt⟩:∃y,y=x.getD 6 0:=⟨_,rfl⟩
     rw[<-bq]at aY;rw[<-b2]at c4 V;rw[<-br]at d3;rw[<-bs]at d4;rw[<-bt]at d5;have c7:recE x=⟨av,aM,aN,aO⟩:=by rw[b2,br,bs,bt];rfl
     have c8:apR (apRs (apM l) (rs.take j)) x=fun b3=>if b3=av then(if kd=0 then some ⟨av,aM,aN,aO⟩else none)else(apRs (apM l) (rs.take j)) b3:=by
      unfold apR;rw[c7,<-b2,<-bq]
     have ae:=K.keep au id;have aL:=q.trans ((Upd.below au).mono q.size);have M:cs.length=7:=by rw[s];rfl
     have ag:∀v∈cs,v.oneCell'=true:=by rw[s];exact wN x
     have X:(prog.info? 273).map (·.size)=some cs.length:=by rw[M];exact infoThR
     have HX:=Y3 M X ag;have aC:=Y2 a6 T;rw[c8]at E;have A:=Y4 ae aL E V;clear K q aJ hx V E aK s a6 au S T ae aL M ag X bf c7 c8 bq b2 br bs bt;go_wp2_with (first
      |(refine qZa rfl 273 _ rfl _ _ rfl _ _ ar underlying273 rfl HX.o.2.1 ?_)
      |(refine zk rfl _ _ _ rfl _ _ cs rfl rfl jL HX.o.2.1 HX.o.2.2 ?_;refine Stop.i ?_)
      |fail)
     rw[<-aC.o.1,<-aC.o.2];clear ar;by_cases bu:kd=0
     .obtain ⟨aE,ah,ai,aj,z4⟩:=A.o.1.store EI.enc_inj underlying279 A.o.2.2.2.1.1 A.o.2.2.2.1.2 ⟨av,aM,aN,aO⟩ (show l.length+j<maxLen by unfold maxLen;omega);have dy:(Instr.mapUpdate 279 (.map (some Z)) (.int .i64 av) (.agg #[.int .i64 av,.int .i64 aM,.bool aN,.int .i64 aO])).run prog L=.ok () aE:=ah;have ak:Below w.heap.size w aE:=zj A.o.2.1 aj (qXp _) (fun am N=>by rw[N,U.o.2];exact qXp _);have E:=A.o.2.2.1;simp only[if_pos bu]at E;have dz:=zdS av aM aN aO L;have H:=Y3 ai ak E;clear ai aj z4 ak ah E;subst bu;unfold Stop;go_wp2_with fail
      go_roundg (gk-1)
      case measure=>omega
      case rel=>
       refine⟨j+1,oM,by go_num,?_,H.o.2.1⟩;rw[H.o.2.2];exact H.o.1
     .obtain ⟨aE,ah,ai,aj,z4⟩:=A.o.1.drop underlying279 A.o.2.2.2.1.1 A.o.2.2.2.1.2 0;have ak:Below w.heap.size w aE:=zj A.o.2.1 aj (qXp _) (fun am N=>by rw[N,U.o.2];exact qXp _);have E:=A.o.2.2.1;simp only[if_neg bu]at E;have H:=Y3 ai ak E;clear ai aj z4 ak E;unfold Stop;go_wp2_with fail
      go_roundg (gk-1)
      case measure=>omega
      case rel=>
       refine⟨j+1,oM,by go_num,?_,H.o.2.1⟩;rw[H.o.2.2];exact H.o.1.mono oM
    .obtain rfl:j=rs.length:=oM;have d2:¬((rs.length:Int)<(rs.length:Int)):=oM;rw[qXj (qXp _)]at K;have bd:= @run_makeMap prog;obtain⟨G,b4⟩:=qqe (wr.heap.size);obtain⟨bv,aF⟩:=qqe (wr.alloc (.map #[] 0));have bx:=qqu aF;have bz:MapC (Value.int .i64) bv G 0 (takenF []) 0:=by rw[aF,b4];exact MapC.made wr
     have bA:=K.keep bx id;have bB:=bA;rw[aF]at bB;have c9:=q.trans ((Upd.below bx).mono q.size);have d6:G<bv.heap.size:=bz.g.lt;have z5:bv.heap.size=G+1:=by rw[aF,b4];simp
     have cb:Z<G:=by have:=K.lt;omega
     have bC:=Y2 aF b4;have aP:=Y5 bz bA c9 cb z5;have d7:=qqh bB;clear K q aF bx bz bA c9 d6 cb b4 be bB z5;go_wp2_with (first
      |(at_range;refine xB rfl _ 279 rfl underlying279 rfl d7.out ?_;intro d8 J b5 bD;refine Stop.i ?_)
      |fail)
     rw[<-bC.o.1]at J b5 bD
     try rw[<-bC.o.1]
     rw[aP.o.2.2.2.2]at J bD;rw[<-bC.o.2];obtain⟨cc,cd,J⟩:=J;obtain⟨F,aQ⟩:=qqe (apRs (apM l) rs);have ce:AtB F:=by rw[aQ];exact zaP rs _ (zdy l)
     have cf:∀b3 e,F b3=some e->AE e.b/\AE e.s:=by
      rw[aQ];exact JK (p:=fun e=>AE e.b/\AE e.s) ad.o.2.2.1 (fun r aH=>ad.o.2.2.2.1 r aH)
     rw[<-aQ]at J;have ch:G+1=G+1:=rfl;have ci:Below w.heap.size w d8:=aP.o.2.2.1.trans ((Upd.below b5).mono aP.o.2.2.1.size);have cj:=aP.o.1.keep b5 id;have Q:=Y9 aQ ce cf ch ci cj cd J aP.o.2.2.2.1;clear aQ ce cf ch ci cj cd J b5 bD bd;unfold Stop;go_wp2_with fail
     obtain⟨dA,d9⟩:∃x,x=gk:=⟨_,rfl⟩
     clear d9;go_loopg[14] cc (fun gk cl wr=>∃(k:List EI) (left:Int->Bool) (c:Nat),k.length+gk<=cc/\ZI EI.enc wr Z (G+1) (l.length+rs.length) F left gk/\MapC (Value.int .i64) wr G k.length (takenF k) c/\c<=k.length/\(c=k.length↔(k.map EI.s).Nodup)/\
      Sl wr 132 4 cl k.length (k.flatMap EI.cs)/\From (G+2) cl/\Below w.heap.size w wr/\(k.map EI.b).Nodup/\∀e,e∈k↔F e.b=some e/\left e.b=false)
     case atStart=>exact⟨[],_,0,oe,Q.o.2.2.2.2.2.2.2.1,Q.o.2.2.2.2.2.1,qXp _,oe,Sl.nil _ _ _,From.nil _ _ _,Q.o.2.2.2.2.1,qzx,fun e=>⟨fun h=>jS,fun h=>(by have h1:=h.2;rw[h.1]at h1;cases h1)⟩⟩
     case round=>
      obtain⟨k,left,c,aw,J,an,ag,ao,hsl,Y,q,a7,ap⟩:=hrel;have co:=Y10 aw an ag ao hsl Y q a7 ap J;clear aw an ag ao hsl Y q a7 ap;go_wp2_with (first
       |(at_next;refine xO rfl _ rfl rfl J (fun cp=>Stop.i ?_) (fun x R b6 cq b7 ax b8 da bE=>Stop.i ?_))
       |fail)
      .obtain ⟨aw,an,M,ao,hsl,Y,q,a7,ap,-⟩:=co.o;clear J;obtain⟨cr,ct,rfl⟩:=hsl.rd.jW;have cu:Lists F k:=⟨a7,fun e=>(ap e).trans ⟨fun h=>h.1,fun h=>⟨h,cp _⟩⟩⟩
       have dB:=an.len underlying145 3;have db:k.length<=131072:=by have:=Q.o.2.2.2.2.2.2.1;omega
       have dc:=qqh (Rj hsl oM);have dd:Z=w.heap.size:=U.o.2;have bF:=Q.o.2.2.2.2.2.2.2.2;have cv:From w.heap.size (.slice cr k.length ct):=Y.mono oM;have a8:=Y5 cu ao cv q a7;have dC:=qqh M;clear aw an M ao hsl Y q a7 ap cp dd bF cv cu;unfold Stop;by_cases ax:c=k.length
       .have bG:=qqh ax;have X:((c:Nat):Int)=(k.length:Int):=by rw[ax]
        clear ax;go_wp2_with fail
        refine dc.out.mono ?_;rintro e aG ⟨rfl,df,ay,ab,b9,aq⟩;have az:Below w.heap.size w aG:=zj a8.o.2.2.2.1 aq (qXp _) (fun am N=>a8.o.2.2.1 am N);have dg:=Y4 ay ab b9 az;clear ay ab b9 aq az;go_wp2_with fail
        refine qYq (v:=.tuple #[.slice cr k.length ct,.int .i64 0]) ja rfl ?_;obtain⟨ay,ab,b9,az⟩:=dg.out;have dh:=ay.length_eq;refine⟨_,df,0,rfl,by rw[dh];exact b9,a8.o.2.2.1,az,.inr ⟨rfl,bo.o.2.1,?_,?_,QN ay a8.o.2.2.2.2 ab⟩⟩
        .rw [<-Q.o.1];exact VJ a8.o.1 ay
        .exact (ay.map EI.s).nodup_iff.2 (a8.o.2.1.1 bG.o)
       .have bG:=qqh ax;have X:¬((c:Nat):Int)=(k.length:Int):=oM;clear ax;go_wp2_with fail
        refine qYq (v:=.tuple #[.slice none 0 0,.int .i64 12]) ja rfl ?_;exact⟨_,[],12,rfl,Sl.nil _ _ _,From.nil _ _ _,a8.o.2.2.2.1,.inl ⟨rfl,rfl,.inr ⟨k,by rw[<-Q.o.1];exact a8.o.1,fun h=>bG.o (a8.o.2.1.2 h)⟩⟩⟩
      .clear J;obtain⟨di,cx,bH⟩:=ax;have cy:=Q.o.2.1 x R b7;have aR:=(Q.o.2.2.1 x R b7).2;have bI:=R.one;unfold EI.enc at bE⊢;obtain⟨cs,s⟩:=qqe (R.cs);rw[<-s]at bE bI;rw[<-s];obtain⟨bJ,ba⟩:=qqe (b6.alloc (.cells cs.toArray 132));have aS:=qqu ba;have bb:bJ.heap[b6.heap.size]?=some (.cells R.cs.toArray 132 (0,0)):=by rw[ba,s];exact zc b6 _ rfl
       obtain⟨W,T⟩:=qqe (b6.heap.size);rw[<-T]at bb;have dj:bJ.cell? ⟨W,1,none⟩=some (.int .i64 R.s):=za bb 1;have bK:=zf bb;rw[<-s]at bK;obtain⟨aw,an,M,ao,hsl,Y,q,a7,ap,J⟩:=co.o;have bF:=Q.o.2.2.2.2.2.2.2.2;have dk:=bH.lt.2;have bL:=(an.keep b8 oM).keep aS id;have af:=bL.g.look1 (enc:=Value.int .i64) (fun x y h=>by injection h) underlying145 (z0:=0) (Sb bJ) aR.1 aR.2;rw[Wb]at af;have dl:=zaR k R.s;obtain⟨bM,bN⟩:=qqe (cntS k R.s);rw[<-bN]at af dl;have db:k.length<=131072:=by have:=Q.o.2.2.2.2.2.2.1;omega
       have dm:IntKind.i64.wrap ((bM:Int)+1)=(bM:Int)+1:=qxt _ oM;obtain⟨aG,ah,bO,aq,z9⟩:=bL.store (enc:=Value.int .i64) (fun x y h=>by injection h) underlying145 aR.1 aR.2 ((bM:Int)+1) (show k.length<maxLen by unfold maxLen;omega);have cz:W≠G:=oM;have cA:=aq.range bK cz;have cB:=(hsl.keep b8 (fun g bP h=>by have:=Y g bP;omega)).keep aS (fun _ _ h=>h);have cC:=cB.keep aq (fun g bP h=>by have:=Y g bP;omega);have cD:=JL R M ao;have cE:=VI b7 cy cq a7 ap;have bQ:=XY k R;rw[<-bN]at bQ;have az:Below w.heap.size w aG:=zj (zj (zj q b8 (qXp _) (fun am N=>by have:=U.o.2;omega)) aS (qXp _) (fun am N=>N.elim)) aq (qXp _) (fun am N=>by have:=U.o.2;omega);have bR:=(bH.keep aS id id).keep aq (show¬Z=G by omega) (show¬G+1=G by omega);have bS:cs.length=4:=by rw[s];rfl
       have X:(prog.info? 132).map (·.size)=some cs.length:=by rw[bS];exact YB
       have cF:G+2<=aG.heap.size:=by have:=bR.lt.2;omega
       rw[<-bQ]at bO;obtain⟨cG,cH,cI,cJ,cK,cL,cM⟩:=Wm;have aa:=Y5 cI cJ cK cL cM;have aV:Hid (k.length+1<=maxLen):=by show _<=_;unfold maxLen;omega
       have ae:Hid ((k.length+1)*32<=140737488355328):=by show _<=_;omega
       have HX:=Y4 bS X bI s;have cN:=Y2 ba T;have D:=Y10 cC Y az bR bO cD cE cF aw cx;clear aw an M ao hsl Y q a7 ap J dk bL bN aq z9 cz cB cC cD cE bQ az bR bH cx bS X cF bO cI cJ cK cL cM bI s ba T aS bb b8 da cy aR cq b7 bF bK;unfold Stop;go_wp2_with (first
        |(refine zk rfl _ _ _ rfl _ _ cs rfl rfl jL HX.o.2.1 HX.o.2.2.1 ?_;refine Stop.i ?_)
        |fail)
       rw[<-cN.o.1,<-cN.o.2];unfold Stop;go_wp2_with (first
        |(refine qZa rfl 132 _ rfl _ _ rfl _ _ cA underlying132 rfl HX.o.2.1 ?_)
        |(refine yD rfl 123 132 _ rfl 4 de underlying123 ⟨cG,cH,aa.o.1,aa.o.2.1,aa.o.2.2.1,aa.o.2.2.2.1⟩ de cs rfl HX.o.1 ?_)
        |(at_builtin;refine zK rfl _ _ 123 rfl cG cH 32 underlying123 aa.o.1 aa.o.2.1 aa.o.2.2.2.1 aa.o.2.2.2.2 aa.o.2.2.1 de rfl D.o.1 cs rfl HX.o.1 HX.o.2.2.1 aV.out ae.out ?_;intro dD bT bU cO aT;obtain⟨bV,bW,rfl⟩:=bU.rd.jW;refine Stop.i ?_)
        |fail)
       unfold Stop;have bc:Upd (ownS u14) aG bT:=cO;have cP:blockFrom aG u14 (.slice bV (k.length+1) bW):=aT;clear cO aT;have cQ:From (G+2) (.slice bV (k.length+1) bW):=cP.ge D.o.2.2.2.2.2.2.2.1 D.o.2.1;have cR:=D.o.2.2.2.1.keep bc (fun h=>by have:=D.o.2.1 _ h;have:=Q.o.2.2.2.2.2.2.2.2;omega) (fun h=>by have:=D.o.2.1 _ h;omega);have cT:=D.o.2.2.2.2.1.keep bc (fun h=>by have:=D.o.2.1 _ h;omega);have aT:Below w.heap.size w bT:=zj D.o.2.2.1 bc (qXp _) (fun am N=>by have:=D.o.2.1 _ N;have:=U.o.2;have:=Q.o.2.2.2.2.2.2.2.2;omega);have cU:Sl bT 132 4 (.slice bV (k.length+1) bW) (k++[R]).length ((k++[R]).flatMap EI.cs):=by
        simp only[qyy,qyd,qye,List.flatMap_nil,qxw,qyz,qzc];rw[<-HX.o.2.2.2];exact bU
       have aU:=Y5 cQ cR cT aT cU;clear cQ cR cT aT cU bU bc cP ah af bE cA dj dm;go_wp2_with fail
       go_roundg di
       case measure=>exact D.o.2.2.2.2.2.2.2.2.2
       case rel=>
        refine⟨k++[R],_,_,?_,aU.o.2.1,?_,D.o.2.2.2.2.2.1.1,D.o.2.2.2.2.2.1.2,aU.o.2.2.2.2,aU.o.1,aU.o.2.2.2.1,D.o.2.2.2.2.2.2.1.1,D.o.2.2.2.2.2.2.1.2⟩
        .have h1:=D.o.2.2.2.2.2.2.2.2.1;have h2:=D.o.2.2.2.2.2.2.2.2.2;simp only[qyy,qyz,qzc];omega
        .simp only[qyy,qyz,qzc];exact aU.o.2.2.1
def Ey(S:Nat->Prop)(w:World)(b:Nat)(F:List Bk)(O:List (Nat×Bk))(jo pa:Nat)(e:Ending)(w':World):Prop:=
 ∃(v:Value) (L:List EI) (wh sq:Nat) (c:Int),e=.returned (.tuple #[.int .i64 (wh:Int),.int .i64 (sq:Int),v,.int .i64 c])/\Sl w' 132 4 v L.length (L.flatMap EI.cs)/\From w.heap.size v/\Dv (fun j=>S j/\∀g,v.ownBlock=some g->g≠j) w' b F O []/\Upd S w w'/\
  ((c=14/\L=[]/\(nwS F O 1 pa 2).1=false)\/
   (nwS F O 1 pa 2).1=true/\∃R:List (List Nat),R.Perm (scanTo F O (1+2*pa) jo jo)/\R.Pairwise (fun x y=>rseq x<=rseq y)/\
    ∃r:RepS,r=repS R (nwS F O 1 pa 2).2.2.1/\
    ((c=12/\L=[]/\(¬(((nwS F O 1 pa 2).2.2.2.map Ent.toI).map EI.b).Nodup\/∃L0,Lists (apRs (apM ((nwS F O 1 pa 2).2.2.2.map Ent.toI)) (r.d.map natsI)) L0/\¬(L0.map EI.s).Nodup))\/
    (c=0/\wh=(nwS F O 1 pa 2).2.1/\sq=r.g/\Lists (apRs (apM ((nwS F O 1 pa 2).2.2.2.map Ent.toI)) (r.d.map natsI)) L/\(L.map EI.s).Nodup/\L.Pairwise (fun x y=>x.b<y.b))))
theorem Ez{S:Nat->Prop}(aH:Dv S w b F O [])(aI:∀j,w.heap.size<=j->S j)(aJ:Nib w)(aK:¬S 1)
  (id:Int) (R sl k p q U:Nat) (ba:1<=R) (bb:R<=4096) (bc:1<=sl) (bd:sl<=1024) (be:4<=k) (ad:k<=1024) (bf:1<=q) (bg:q<=1024) (a1:1<=U) (a2:U<=64) (bh:(sl-1)/4+1<=p) (bi:p<=4096)
  (bj:1+2*p+k+q+q+q+sl<=4096) (bG:F.length=1+2*p+k+q+q+q+sl):
  Calls prog 62 #[.agg (superC id R sl k p q U).toArray,.pointer (some ⟨b,0,none⟩)] w (Ey S w b F O k p):=by
 obtain⟨w1,aL⟩:=qqe (w.alloc (.cells (superC id R sl k p q U).toArray 38));have bk:=qqh (uG id R sl k p q U ba bb bc bd be ad bf bg a1 a2 bh bi bj w1);have ap:=qqh aL;have K:=Y4 aH aI aJ aK;clear aH aI aJ aK aL;go_enter func62,ntmps62
 go_wp2_with fail
 rw[<-ap.o];refine bk.o.mono ?_;rintro e Z ⟨rfl,ae⟩;have aM:Upd (fun _=>False) w w1:=by rw[ap.o];exact(uur _ w).alloc _
 have aN:Upd (fun _=>False) w Z:=aM.trans (uuo ae);have aq:w1.heap[w.heap.size]?=some (.cells (superC id R sl k p q U).toArray 38 (0,0)):=by rw[ap.o];exact zc w _ rfl
 obtain⟨aO,ar⟩:=qqe (w.heap.size);obtain⟨E,V⟩:=qqe (Z.alloc (.cells (layC sl k p q).toArray 62));have af:Upd (fun _=>False) w E:=by rw[V];exact aN.alloc _
 have aP:=qqu V;have gm:=qqg V;have z3:E.heap.size=Z.heap.size+1:=by rw[V];simp
 have a6:=aP.jV ((uuo (S:=fun _=>False) ae).jV aq);have aQ:w.heap.size<Z.heap.size:=by have:=ae.size;have:=zd aq;omega
 obtain⟨m,au⟩:=qqe (Z.heap.size);have av:Dv (fun j=>(S j/\j<w.heap.size)\/E.heap.size<=j) E b F O []:=((K.o.1.kw (T:=fun j=>S j/\j<w.heap.size) (fun j h1 h2=>⟨h1,h2⟩)).keep af (fun _ _ h=>h)).wide (fun j h=> .inl h);have ag:Nib E:=K.o.2.2.1.keep af (fun h=>h);have bl:=qqh (zbl av (fun j W=> .inr W) 1 p oM oM ag (fun h=>by rcases h with h|h;exact K.o.2.2.2 h.1;have:=ag.lt;omega));have a7:=Y3 V au ar;rw[<-ar]at a6;rw[<-au]at gm;have aR:E.cell? ⟨aO,3,none⟩=some (.int .i64 (k:Int)):=za a6 3;have bn:E.cell? ⟨aO,4,none⟩=some (.int .i64 (p:Int)):=za a6 4;have bo:E.cell? ⟨m,0,none⟩=some (.int .i64 1):=za gm 0;have m1:E.cell? ⟨m,1,none⟩=some (.int .i64 (1+2*(p:Int))):=za gm 1;have s:=Y7 af av ag z3 aQ a6 gm;clear aM aN af aP aq gm z3 a6 aQ av ag V ar au ae;go_wp2_with (first
  |(refine zk rfl _ _ _ rfl _ _ (layC sl k p q) rfl rfl rfl kR (fun v aS=>by simp at aS;rcases aS with rfl|rfl|rfl|rfl|rfl|rfl|rfl<;>rfl) ?_;refine Stop.i ?_)
  |fail)
 rw[<-a7.o.1,<-a7.o.2.1,<-a7.o.2.2];unfold Stop;go_wp2_with fail
 refine bl.out.mono ?_;rintro e bH ⟨v,rfl,X,aw,ah,Y⟩;obtain⟨bp,a8⟩:=qqe (nwS F O 1 p 2);rw[<-a8]at X
 try rw[<-a8]
 have H:=qqh a8;have ai:=zbm F O 1 p (fun B=>xf F O B p) 2;rw[<-a8]at ai;obtain⟨bq,aT,aj,ax⟩:=bp;dsimp only at X ai⊢;obtain⟨br,bs,rfl⟩:=X.rd.jW;have bI:=Y.jU aR (fun h=>by have:=s.o;have h1:=a7.o.2.2;omega);have bJ:=Y.jU m1 (fun h=>by have:=s.o;have h1:=a7.o.2.1;omega);have A:=Y5 X aw ah Y ai;clear a8 X aw ah Y ai aR bn bo m1;cases bq with
 |false=>
  go_wp2_with fail
  refine qYq (v:=.tuple #[.int .i64 0,.int .i64 0,.slice none 0 0,.int .i64 14]) je rfl ?_;obtain⟨X,aw,ah,Y,-⟩:=A.o;refine⟨.slice none 0 0,[],0,0,14,rfl,Sl.nil _ _ _,From.nil _ _ _,?_,?_,.inl ⟨rfl,rfl,by rw[<-H.o]⟩⟩
  .refine ah.wide (fun j h=>⟨?_,fun g G=>by cases G⟩);rcases h.1 with h|h
   .exact h.1
   .have:=s.o;exact K.o.2.1 j oM
  .refine s.o.1.mono fE|>.new Y (fun j W h=>?_)
   rcases h with h|h
   .exact h.1
   .have:=s.o;omega
 |true=>
  have bt:=qqh (zfI A.o.2.2.1 (fun j W=>⟨.inr (by have:=A.o.2.2.2.1.size;omega),fun g G e=>by have:=A.o.1.lt G;omega⟩) (1+2*p) k oM ad oM (s.o.2.2.1.keep A.o.2.2.2.1 (fun h=>by rcases h with h|h;exact K.o.2.2.2 h.1;have:=s.o.2.2.1.lt;omega)) (fun h=>by rcases h.1 with h|h;exact K.o.2.2.2 h.1;have:=s.o.2.2.1.lt;omega));go_wp2_with fail
  refine bt.out.mono ?_;rintro e bu ⟨v5,M,rfl,ak,aU,ay,f5,aV,az⟩;obtain⟨bK,bL,rfl⟩:=ay.rd.jW;have aW:=A.o.1.keep az (fun g G h=>h.2 g G rfl);have bv:=qqh (zbb ay.rd aj A.o.2.2.2.2.2.2 (fun r J=>(sa F O (1+2*p) k k r (ak.mem_iff.1 J)).1) (by rw[ak.length_eq];exact qXr (wj F O _ k k) ad));have D:=Y5 ak aU aW aV az;clear ak aU ay f5 aV az aW;go_wp2_with fail
  refine bv.out.mono ?_;rintro e aa ⟨bM,rfl,am,f6,aA⟩;obtain⟨bx,bz,rfl⟩:=am.rd.jW;have bA:M.length<=1024:=by rw[D.o.1.length_eq];exact qXr (wj F O _ k k) ad
  have aB:=(Yq (L:=M) (after:=aj) (N:=1099511627776) A.o.2.2.2.2.2.2 (fun r J=>(sa F O (1+2*p) k k r (D.o.1.mem_iff.1 J)).1) M.length (qXp _)).2.2;rw[List.take_length]at aB;have aC:=zbn M aj;obtain⟨r,J⟩:=qqe (repS M aj);rw[<-J]at am aB aC;rw[<-J];have aX:=D.o.2.2.1.keep (uuo (S:=fun _=>False) aA) (fun _ _ h=>h);have aY:Rd aa 4 (.slice br ax.length bs) (ax.map Ent.toI).length ((ax.map Ent.toI).flatMap EI.cs):=by
   rw[se,qzb];exact aX.rd
  have aZ:Rd aa 7 (.slice bx r.d.length bz) (r.d.map natsI).length ((r.d.map natsI).flatMap dsR):=by
   rw[VW,qzb];exact am.rd
  have bB:=qqh (zdT aY aZ (by rw[qzb];have:=A.o.2.2.2.2.2.1;omega) (by rw[qzb];omega)
   (fun e bC=>by
    obtain⟨x,hx,rfl⟩:=qzq.1 bC;have:=A.o.2.2.2.2.1 x hx;unfold Ent.In at this;unfold AE Ent.toI;dsimp only;omega)
   (fun y hy=>by
    obtain⟨x,hx,rfl⟩:=qzq.1 hy;have:=sa F O (1+2*p) k k x (D.o.1.mem_iff.1 (aC x hx));rw[zU,zU];unfold AE;omega))
  have an:=Y2 aA J;clear bA aB aC aX aY aZ am f6 aA J;go_wp2_with fail
  refine bB.out.mono ?_;rintro e aD ⟨bN,aE,c,rfl,aF,f7,b0,ao⟩;obtain⟨b1,b2,rfl⟩:=aF.rd.jW;have z5:=A.o.2.2.2.1.size;have bD:=D.o.2.2.2.2.size;have bE:=an.o.1.size;have aG:Upd (fun _=>False) bu aD:=(uuo an.o.1).trans (uuo b0);have b3:Dv (fun j=>S j/\j<aa.heap.size) aD b F O []:=((D.o.2.2.2.1.kw (T:=fun j=>S j/\j<aa.heap.size) (fun j h W=>⟨by
    rcases h.1.1 with h|h
    .exact h.1
    .have:=s.o;exact K.o.2.1 j oM,oM⟩)).new aG)
  have b4:Upd S w aD:=by
   refine(((s.o.1.mono fE).new A.o.2.2.2.1 (fun j W h=>?_)).new D.o.2.2.2.2 (fun j W h=>?_)).trans (aG.mono fE)
   .rcases h with h|h
    .exact h.1
    .have:=s.o;omega
   .rcases h.1 with h|h
    .exact h.1
    .have:=s.o;omega
  have Q:=Y4 b3 b4 aF f7;have b5:w.heap.size<=aa.heap.size:=by have:=s.o;omega
  have bF:=qqh b5;clear aF f7 b0 z5 bD bE aG b3 b4 b5;rcases ao with⟨rfl,rfl,ao⟩|⟨rfl,b6,b7,b8,b9⟩
  .have ab:=qqh ao;clear ao;go_wp2_with fail
   refine qYq (v:=.tuple #[.int .i64 0,.int .i64 0,.slice none 0 0,.int .i64 12]) je rfl ?_;refine⟨.slice none 0 0,[],0,0,12,rfl,Sl.nil _ _ _,From.nil _ _ _,Q.o.1.wide (fun j h=>⟨h.1,fun g G=>by cases G⟩),Q.o.2.1,.inr ⟨by rw[<-H.o],M,D.o.1,D.o.2.1,r,by rw[<-H.o];exact an.o.2,.inl ⟨rfl,rfl,by rw[<-H.o];exact ab.o⟩⟩⟩
  .have ab:=Y4 b6 b7 b8 b9;clear b6 b7 b8 b9;go_wp2_with fail
   refine qYq (v:=.tuple #[.int .i64 (aT:Int),.int .i64 (r.g:Int),.slice b1 aE.length b2,.int .i64 0]) je rfl ?_;refine⟨.slice b1 aE.length b2,aE,aT,r.g,0,rfl,Q.o.2.2.1,Q.o.2.2.2.mono bF.o,Q.o.1.wide (fun j h=>⟨h.1,fun g G e=>by have:=Q.o.2.2.2 g G;omega⟩),Q.o.2.1,.inr ⟨by rw[<-H.o],M,D.o.1,D.o.2.1,r,by rw[<-H.o];exact an.o.2,.inr ⟨rfl,by rw[<-H.o],rfl,by rw[<-H.o];exact ab.o.2.1,ab.o.2.2.1,ab.o.2.2.2⟩⟩⟩
def ti(own:Nat->Nat)(w:World)(ssd back:Nat)(n:CaN)(a:CaS)(e:Ending)(w':World):Prop:=
 ∃c p own' li lc lf,e=.returned (.tuple #[ptr c,.agg #[ptr li,ptr lc,ptr lf],.slice none 0 0,.int .i64 0])/\CaAt own' w' c n p a/\p.ssd=ssd/\p.back=back/\Did own own' w w'/\
  LogI w' li ssd (1+2*n.pa+n.jo) n.lo 118/\LogC w' lc ssd (1+2*n.pa+n.jo+n.lo) n.lo 122/\LogF w' lf ssd (1+2*n.pa+n.jo+n.lo+n.lo) n.lo 126/\own' li=0/\own' lc=0/\own' lf=0
structure Emp(n:CaN)(F:List Bk)(O:List (Nat×Bk))(wh sq:Nat):Prop where
 ok:n.Ok
 fl:F.length=n.size
 su:okS (curB F O 0)=true
 ns:dsS (natsI (numsS (curB F O 0)))=n.C
 nw:nwS F O 1 n.pa 2=(true,wh,sq,[])
 js:scanTo F O (1+2*n.pa) n.jo n.jo=[]
 wh1:wh<=1
 sq1:sq+1<1099511627776
 zs:∀j,j<n.lo+n.lo+n.lo->curB F O (1+2*n.pa+n.jo+j)=zB
 o5:O.length<=50000
theorem Rk{L:List EI}(h:Lists (fun _=>none) L):L=[]:=by
 cases L with
 |nil=>rfl
 |cons e L=>have:=(h.2 e).1 qzo;cases this
theorem Ub{p:Nat}{cs:Array Value}{j:List Value}{t:TypeId}(h:w.heap[p]?=some (.cells cs t (0,0)))(q:cs.size=j.length):(w.setCells p 0 j).heap[p]?=some (.cells j.toArray t (0,0)):=by
 obtain⟨s,h2,D,A⟩:=zC j 0 w p _ t (0,0) h;rw[h2];have:s=j.toArray:=by
  apply qxd
  intro k;have e:j.toArray[k]?=j[k]?:=oe;rw[A k,e,q];by_cases E:k<j.length
  .rw [if_pos ⟨oM,oM,oM⟩];rfl
  .rw [if_neg oM,qxf oM,qyk oM]
 rw[this]
def Bx(own:Nat->Nat)(w:World)(m:Nat)(c:Value)(l:List Value):Prop:=
 (w.heap[m+1+1+1]?=some (.cells #[c] 88 (0,0))/\own (m+1+1+1)=0)/\(w.heap[m+1+1+1+1]?=some (.cells l.toArray 93 (0,0))/\own (m+1+1+1+1)=0)/\
  (w.heap[m+1+1+1+1+1]?=some (.cells #[.slice none 0 0] 94 (0,0))/\own (m+1+1+1+1+1)=0)
theorem Bx.did{m:Nat}{c:Value}{l:List Value}(h:Bx own w m c l)(d:Did own own' w w'):Bx own' w' m c l:=
 ⟨d.zero h.1.1 h.1.2,d.zero h.2.1.1 h.2.1.2,d.zero h.2.2.1 h.2.2.2⟩
def Lg3(own:Nat->Nat)(w:World)(n:CaN)(d li lc lf:Nat):Prop:=
 (LogI w li d (1+2*n.pa+n.jo) n.lo 118/\LogC w lc d (1+2*n.pa+n.jo+n.lo) n.lo 122/\LogF w lf d (1+2*n.pa+n.jo+n.lo+n.lo) n.lo 126)/\own li=0/\own lc=0/\own lf=0
theorem Lg3.did{d li lc lf:Nat}(h:Lg3 own w n d li lc lf)(g:Did own own' w w'):Lg3 own' w' n d li lc lf:=
 ⟨⟨h.1.1.keep g.upd (fun j=>j.1 h.2.1),h.1.2.1.keep g.upd (fun j=>j.1 h.2.2.1),h.1.2.2.keep g.upd (fun j=>j.1 h.2.2.2)⟩,(g.old _ h.1.1.lt).trans h.2.1,(g.old _ h.1.2.1.lt).trans h.2.2.1,(g.old _ h.1.2.2.lt).trans h.2.2.2⟩
theorem Lg3.aside{d li lc lf:Nat}(h:Lg3 own w n d li lc lf)(j:Upd (fun k=>k=b) w w')(h1:li≠b)(h2:lc≠b)(p:lf≠b):Lg3 own w' n d li lc lf:=
 ⟨⟨h.1.1.keep j h1,h.1.2.1.keep j h2,h.1.2.2.keep j p⟩,h.2⟩
def zfK(own:Nat->Nat)(w:World)(ssd back m:Nat)(n:CaN)(F:List Bk)(O:List (Nat×Bk))(G:List Bk)(Q:List (Nat×Bk))(a:CaS)(Fx:Nat->Option Obj):Nat->World->Prop
 |0=>fun W=>∃own',Dvs own' W ssd back F O G Q []/\Did own own' w W/\Kps own' W Fx/\Bx own' W m (.pointer none) [.pointer none,.pointer none,.pointer none]
 |1=>fun W=>∃own' c p,CaAt own' W c n p a/\(p.ssd=ssd/\p.back=back)/\Did own own' w W/\Kps own' W Fx/\Bx own' W m (ptr c) [.pointer none,.pointer none,.pointer none]
 |2=>fun W=>∃own' c p li lc lf,CaAt own' W c n p a/\(p.ssd=ssd/\p.back=back)/\Did own own' w W/\Kps own' W Fx/\Bx own' W m (ptr c) [ptr li,ptr lc,ptr lf]/\Lg3 own' W n ssd li lc lf
 |3=>fun W=>∃own' c p li lc lf,CaAt own' W c n p a/\(p.ssd=ssd/\p.back=back)/\Did own own' w W/\Kps own' W Fx/\Bx own' W m (ptr c) [ptr li,ptr lc,ptr lf]/\Lg3 own' W n ssd li lc lf
 |_=>fun W=>∃own' c p li lc lf,CaAt own' W c n p (a.ckpt n).1/\(p.ssd=ssd/\p.back=back)/\Did own own' w W/\Kps own' W Fx/\Bx own' W m (ptr c) [ptr li,ptr lc,ptr lf]/\Lg3 own' W n ssd li lc lf
theorem Uc{P:Program}{k:Func}{q p r s:Tmp}{j:TypeId}(A:k.results= #[.tmp q,.cell p j,.tmp r,.tmp s])(h:Array Value)(w:World)(b o:Nat)(cs:List Value)(d:TypeDesc)
  (D:h.getD p undef=.pointer (some ⟨b,o,none⟩)) (E:w.rangeAt b o cs) (G:P.underlying j=some d) (H:d.isRow=true) (J:(P.info? j).map (·.size)=some cs.length):
  (results k h).run P w=.ok (.tuple #[h.getD q undef,.agg cs.toArray,h.getD r undef,h.getD s undef]) w:=by
 have K:h[p]?.getD undef=.pointer (some ⟨b,o,none⟩):=by simpa using D
 simp[results,A,K,asAddr,run_loadVar_mid w b o j cs d E G H J,Result.andThen]
def Wu(s8 q m0 m:Nat):Array Value:= #[.func (.func 65) #[] #[ptr s8,ptr q,ptr (q+1),ptr m0,ptr (m0+1),ptr (m0+1+1),ptr (m+1+1+1)],.func (.func 67) #[] #[ptr (m+1+1+1),ptr (m+1+1+1+1)],
 .func (.func 69) #[] #[ptr (m+1+1+1+1),ptr (m+1+1+1+1+1)],.func (.func 71) #[] #[ptr (m+1+1+1)]]
theorem EA{W:World}{ssd back g m m0 s8 q:Nat}{G:List Bk}{Q:List (Nat×Bk)}{wh sq:Nat}{Fx:Nat->Option Obj}{ao:Option Addr}{ln cap:Nat}{a:CaS}(ai:sq<1099511627776)(aj:F.length=n.size)(ak:∀J,J<n.lo+n.lo+n.lo->curB F O (1+2*n.pa+n.jo+J)=zB)
  (R:a.dF=F/\a.dO=O/\a.dP=[]) (am:(a.ckpt n).2=0) (an:∀k v,a.sums k=some v->v<=4294967295) (ap:O.length<=50000)
  (aq:∀o W,Dvs o W ssd back F O G Q []->Did own o w W->Kps o W Fx->Calls prog 66 #[.agg n.C.toArray,ptr ssd,ptr back,.int .i64 (wh:Int),.int .i64 ((sq+1:Nat):Int),.slice ao ln cap] W (Yd o W ssd back n a)) (aO:w.heap.size<=m)
  (ar:Dvs own' W ssd back F O G Q []) (K:Did own own' w W) (p:Kps own' W Fx) (s:Bx own' W m (.pointer none) [.pointer none,.pointer none,.pointer none])
  (au:Fx g=some (.cells (Wu s8 q m0 m) 83 (0,0))) (av:Fx s8=some (.cells n.C.toArray 38 (0,0))) (aw:Fx q=some (.cells #[ptr ssd] 31 (0,0))) (ax:Fx (q+1)=some (.cells #[ptr back] 31 (0,0)))
  (ay:Fx m0=some (.cells #[.int .i64 (wh:Int)] 3 (0,0))) (az:Fx (m0+1)=some (.cells #[.int .i64 (sq:Int)] 3 (0,0))) (aA:Fx (m0+1+1)=some (.cells #[.slice ao ln cap] 123 (0,0)))
  (aB:Fx (m+1+1+1)=none) (f14:Fx (m+1+1+1+1)=none) (f15:Fx (m+1+1+1+1+1)=none):
  Calls prog 32 #[.slice (some ⟨g,0,none⟩) 4 4] W (rE (fun _ _=>False) (zfK own w ssd back m n F O G Q a Fx 4)):=by
 refine zff (g:=g) (n:=4) oM
  (fun k=>[65,67,69,71].getD k 0) (fun _=> #[])
  (fun k=>[#[ptr s8,ptr q,ptr (q+1),ptr m0,ptr (m0+1),ptr (m0+1+1),ptr (m+1+1+1)],#[ptr (m+1+1+1),ptr (m+1+1+1+1)],#[ptr (m+1+1+1+1),ptr (m+1+1+1+1+1)],#[ptr (m+1+1+1)]].getD k #[])
  (zfK own w ssd back m n F O G Q a Fx) (fun _ _=>False) ?_ ?_ ?_ ⟨own',ar,K,p,s⟩
 .intro k p W N;have aC:∃own',Kps own' W Fx:=by
   rcases(show k=0\/k=1\/k=2\/k=3 by omega)with rfl|rfl|rfl|rfl
   .obtain ⟨o,-,-,h,-⟩:=N;exact⟨o,h⟩
   .obtain ⟨o,c,L,-,-,-,h,-⟩:=N;exact⟨o,h⟩
   .obtain ⟨o,c,L,-,-,-,-,-,-,h,-⟩:=N;exact⟨o,h⟩
   .obtain ⟨o,c,L,-,-,-,-,-,-,h,-⟩:=N;exact⟨o,h⟩
  obtain⟨o,h⟩:=aC;rw[za (h _ _ au).1];rcases(show k=0\/k=1\/k=2\/k=3 by omega)with rfl|rfl|rfl|rfl<;>rfl
 .intro k p aP W;rcases(show k=0\/k=1\/k=2\/k=3 by omega)with rfl|rfl|rfl|rfl<;>rfl
 .intro k p W N;have aD:∀(x:Option Addr) (k:IntKind) (y:Int),(#[Value.pointer x]:Array Value)[0]?≠some (.int k y):=fun x k y h=>by simp at h
  rcases(show k=0\/k=1\/k=2\/k=3 by omega)with rfl|rfl|rfl|rfl
  .obtain ⟨o,aE,K,p,s⟩:=N;have h2:=zhl (own:=o) (w:=W) (n:=n) wh sq (aq o W aE K p) ai (zf (p _ _ av).1) (za (p _ _ aw).1 0) (za (p _ _ ax).1 0) (za (p _ _ ay).1 0) (za (p _ _ az).1 0) (za (p _ _ aA).1 0) s.1.1 s.1.2;refine h2.mono fun e a8 ⟨X,c,L,aa,Y,A,aF,aG,E,Z⟩=>⟨0,X,fun _=>?_,fun h=>absurd rfl h⟩;subst Z;have j:=s.did E;have D:=zi Y (m+1+1+1) 0 (ptr c);refine⟨aa,c,L,A.kf D (Yt A.nib A.tur j.1.1 j.1.2 (aD _)),⟨aF,aG⟩,(K.trans E).mine D oM,(p.did E).aside D (fun J e=>by subst e;exact aB),⟨xk j.1.1,j.1.2⟩,⟨(D.block _ (zd j.2.1.1) oM).trans j.2.1.1,j.2.1.2⟩,⟨(D.block _ (zd j.2.2.1) oM).trans j.2.2.1,j.2.2.2⟩⟩
  .obtain ⟨o,c,L,A,S,K,p,s⟩:=N;have aH:=zhm A (za s.1.1 0) s.2.1.1;refine aH.mono fun e a8 ⟨X,T,U,V,Y,ae,af,ag,ab,a6,Z⟩=>⟨0,X,fun _=>?_,fun h=>absurd rfl h⟩;subst Z;rw[S.1]at ae af ag;have E:=A.j3 a6;have j:=s.did E;have M:=A.new a6;have D:=zo Y (m+1+1+1+1) 0 [ptr T,ptr U,ptr V];have lb:=zd s.2.1.1;have H:Lg3 o Y n ssd T U V:=⟨⟨ae,af,ag⟩,A.far _ ab.1,A.far _ ab.2.1,A.far _ ab.2.2⟩
   refine⟨o,c,L,T,U,V,M.kf D (Yt M.nib M.tur j.2.1.1 j.2.1.2 (fun k y h=>by simp at h)),S,(K.trans E).mine D oM,(p.did E).aside D (fun J e=>by subst e;exact f14),⟨⟨(D.block _ (zd j.1.1) oM).trans j.1.1,j.1.2⟩,⟨Ub j.2.1.1 rfl,j.2.1.2⟩,⟨(D.block _ (zd j.2.2.1) oM).trans j.2.2.1,j.2.2.2⟩⟩,H.aside D oM oM oM⟩
  .obtain ⟨o,c,L,T,U,V,A,S,K,p,s,H⟩:=N;have aI:LgsZ (fun J=>o J=2\/W.heap.size<=J) W T U V ssd (1+2*n.pa+n.jo) n.lo F O:={
    i:=H.1.1
    c:=H.1.2.1
    f:=H.1.2.2
    dv:=by have:=A.kC;rw[S.1,R.1,R.2.1,R.2.2]at this;exact this
    fl:=by rw[aj];unfold CaN.size;omega
    nS:=fun J ad=> .inr ad
    iS:=fun h=>by have:=H.1.1.lt;rcases h with h|h;rw[H.2.1]at h;cases h;omega
    cS:=fun h=>by have:=H.1.2.1.lt;rcases h with h|h;rw[H.2.2.1]at h;cases h;omega
    fS:=fun h=>by have:=H.1.2.2.lt;rcases h with h|h;rw[H.2.2.2]at h;cases h;omega
    nib:=A.nib
    nibS:=fun h=>by have:=A.nib.lt;rcases h with h|h;rw[A.on]at h;cases h;omega
    zs:=fun J ad=>ak J ad}
   have aJ:=zho aI s.2.1.1 s.2.2.1 (fun h=>by have:=zd s.2.2.1;rcases h with h|h;rw[s.2.2.2]at h;cases h;omega);refine aJ.mono fun e a8 ⟨X,Y,aK,a6,Z⟩=>⟨0,X,fun _=>?_,fun h=>absurd rfl h⟩;subst Z;have M:=A.kz (F:=F) (O:=O) (P:=[]) a6 (by rw[S.1];exact aK) (by rw[R.1]);have aL:({a with dF:=F,dO:=O,dP:=[]}:CaS)=a:=by rw[<-R.1,<-R.2.1,<-R.2.2]
   rw[aL]at M;have E:=A.did2 a6;have j:=s.did E;have a7:=H.did E;have D:=zi Y (m+1+1+1+1+1) 0 (.slice none 0 0);have aM:=Yt M.nib M.tur j.2.2.1 j.2.2.2 (fun k y h=>by simp at h);have ln:∀{l:Nat} {v:Array Value} {t:TypeId},Y.heap[l]?=some (.cells v t (0,0))->(∃x,v[0]?=some (.pointer x))->l≠m+1+1+1+1+1:=by
    rintro l v t h ⟨x,hx⟩ e;rw[e,j.2.2.1]at h;cases h;simp at hx
   refine⟨_,c,L,T,U,V,M.kf D aM,S,(K.trans E).mine D oM,(p.did E).aside D (fun J e=>by subst e;exact f15),⟨⟨(D.block _ (zd j.1.1) oM).trans j.1.1,j.1.2⟩,⟨(D.block _ (zd j.2.1.1) oM).trans j.2.1.1,j.2.1.2⟩,⟨xk j.2.2.1,j.2.2.2⟩⟩,a7.aside D (ln a7.1.1.str ⟨_,rfl⟩) (ln a7.1.2.1.str ⟨_,rfl⟩) (ln a7.1.2.2.str ⟨_,rfl⟩)⟩
  .obtain ⟨o,c,L,T,U,V,A,S,K,p,s,H⟩:=N;have ah:=Yk A an (by rw[R.2.1];exact ap);rw[am]at ah;have aN:=zhn ah (za s.1.1 0);refine aN.mono fun e a8 ⟨X,aa,M,E⟩=>⟨0,X,fun _=>?_,fun h=>absurd rfl h⟩;exact⟨aa,c,L,T,U,V,M,S,K.trans E,p.did E,s.did E,H.did E⟩
end
theorem EB{l:List Bk}{s:Nat}{x:Bk}(h:l[s]?=some x):l.getD s zB=x:=by rw[qyf,h];rfl
theorem Wv(p:List Bk):∀k j,(flushF p (zW k))[j]?=if 1<=j/\j<=k/\j<p.length then some zB else p[j]?
 |0,j=>by rw[if_neg oM];rfl
 |k+1,j=>by
  rw[Ti,xK,qyo,Wv p k j,zM];by_cases h:k+1=j
  .subst h;rw[if_pos rfl];by_cases q:k+1<p.length
   .rw [if_pos q,if_pos oM]
   .rw [if_neg q,if_neg oM,qyk oM]
  .rw [if_neg h];by_cases h1:1<=j/\j<=k/\j<p.length
   .rw [if_pos h1,if_pos oM]
   .rw [if_neg h1,if_neg oM]
def zht:Bk:=(pagesB 0 []).getD 0 zB
theorem Ts(i:Nat)(h:1<=i):(pagesB 0 []).getD i zB=zB:=by
 rw[qyf,qyk (by rw[pagesB,xM];exact h)];rfl
theorem Ud(G:n.Ok)(k:F.length=n.size)(s:Nat)(p:s<n.size):
  curB (fmtF n F O) [] s=if s=0 then n.sec else if s=1 then zht else if s<n.s0 then zB else curB F O s:=by
 have J:=n.s0_size;have K:1<=n.pa:=by have:=G.p1;omega
 have L:1+2*n.pa<=n.s0:=by unfold CaN.s0;omega
 have h1:(fmt1 F O)=(flushF F O).set 0 zB:=xK _ _ _;have H:=uZ F O;have e:(fmtF n F O)[s]?=if 0=s then(if s<n.size then some n.sec else none)else if 1<=s/\s<1+n.pa/\s<n.size then some ((pagesB 0 []).getD (s-1) zB)else if 1<=s/\s<=n.s0-1/\s<n.size then some zB else(fmt1 F O)[s]?:=by
  show(flushF (We n F O) [(0,n.sec)])[s]?=_;rw[show flushF (We n F O) [(0,n.sec)]=(We n F O).set 0 n.sec from rfl,qyo,rS,k];unfold We;rw[qM,tL,zM,Wv,H,k];by_cases j:0=s
  .subst j;rfl
  .rw [if_neg j,if_neg j]
 show(flushF (fmtF n F O) []).getD s zB=_;rw[show flushF (fmtF n F O) []=fmtF n F O from rfl];refine EB ?_;rw[e];by_cases j:s=0
 .subst j;rw[if_pos rfl,if_pos p,if_pos rfl]
 rw[if_neg (fun e=>j e.symm),if_neg j];by_cases q:s=1
 .subst q;rw[if_pos oM,if_pos rfl];rfl
 rw[if_neg q];by_cases A:1<=s/\s<1+n.pa/\s<n.size
 .rw [if_pos A,Ts _ oM,if_pos oM]
 rw[if_neg A];by_cases D:s<n.s0
 .rw [if_pos D,if_pos oM]
 .rw [if_neg D,if_neg oM,h1,qyo,if_neg (fun e=>j e.symm)];have E:s<(flushF F O).length:=by rw[zM,k];exact p
  rw[qyj E]
  congr 1
  exact(EB (qyj E)).symm
theorem Ue{xs:List Int}(hx:xs.length=7)(h:mayS xs=true):okS (sectS xs)=true/\natsI (numsS (sectS xs))=xs:=by
 obtain⟨p,q⟩:=Zd hx h;obtain⟨s,A⟩:=Zk (k:=1) de (sz:=szS) (by rw[hx];rfl) p q (mayS (natsI (numsS (sectS xs))));have j:natsI (numsS (sectS xs))=xs:=A;refine⟨?_,j⟩;unfold okS;rw[show okGet (sectS xs) 1 szS (mayS (natsI (numsS (sectS xs))))=mayS (natsI (numsS (sectS xs)))from s,j];exact h
theorem EC:okR zB=false:=kR
theorem Ww{l:List Bk}(h:l.getD 0 zB=zB):readOk l=false:=by unfold readOk;rw[h,JD];rfl
theorem Zx{F:List Bk}{O:List (Nat×Bk)}{base n:Nat}:∀{k:Nat},(∀i,i<k->curB F O (base+i)=zB)->scanTo F O base n k=[]
 |0,_=>rfl
 |k+1,h=>by
  rw[scanTo,Zx (fun i j=>h i oM),h k oM];unfold scL Ef;rw[EC];rfl
theorem Tt(j:n.Ok)(H:mayS n.I=true)(p:F.length=n.size):Emp n (fmtF n F O) [] 0 0:=by
 have N:=n.s0_size;have J:1<=n.pa:=by have:=j.p1;omega
 have hsl:=j.s1;have s:=Ud (O:=O) j p 0 oM;rw[if_pos rfl]at s;have G:=Ue (xs:=n.I) rfl H;have q:∀k,2<=k->k<n.s0->curB (fmtF n F O) [] k=zB:=fun k h1 h2=>by rw[Ud j p k oM,if_neg oM,if_neg oM,if_pos h2]
 have Q:n.s0=1+2*n.pa+n.jo+n.lo+n.lo+n.lo:=rfl;have A:=rR (seq:=0) (E:=[]) de (fun x hx=>by cases hx) de (l:=secsOf (fmtF n F O) [] 1 n.pa) (by rw[xf];exact J) (fun i D=>by
  rw[xf]at D;rw[Yw _ _ _ _ _ D];by_cases K:i=0
  .subst K;rw[Ud j p 1 oM,if_neg oM,if_pos rfl];rfl
  .rw [q _ oM oM,Ts _ oM])
 have L:readOk (secsOf (fmtF n F O) [] (1+1*n.pa) n.pa)=false:=Ww (by rw[Yw _ _ _ _ _ oM,q _ oM oM]);refine⟨j,(JN n F O).trans p,?_,?_,?_,Zx (fun i D=>q _ oM oM),oM,de,fun R S=>q _ oM oM,qXz _⟩
 .rw [s];exact G.1
 .rw [s,show natsI (numsS n.sec)=n.I from G.2];rfl
 .have M:nwS (fmtF n F O) [] 1 n.pa 1=(true,0,0,[]):=by
   rw[nwS];have e:(1+0*n.pa)=1:=oM;rw[e,A.1,A.2.1,A.2.2];rfl
  rw[nwS,L,M];rfl
end Go.Proofs.YtbnpkobbnjihjaaGreatDoor
