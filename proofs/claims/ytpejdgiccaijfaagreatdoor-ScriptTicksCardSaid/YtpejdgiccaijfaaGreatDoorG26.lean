/- The journal: S -/
import Derived.Test.YtpejdgiccaijfaaGreatDoorG20
import Derived.Test.YtpejdgiccaijfaaGreatDoorG21
import Derived.Test.YtpejdgiccaijfaaGreatDoorG23
import Derived.Test.YtpejdgiccaijfaaGreatDoorG24
set_option maxRecDepth 100000
set_option maxHeartbeats 4000000
namespace Go.Proofs.YtpejdgiccaijfaaGreatDoor
open Go Go.RowKit Tryz
variable{w w':World}{F:List Bk}{O:List (Nat×Bk)}{n:CaN}{own own':Nat->Nat}{v:Value}{b:Nat}
section
open Go.Shelf Go.Lib Go.Sort
def Uj(x y:List Nat):Int:=Lib.compareInt (rseq x:Nat) (rseq y:Nat)
theorem ltR(x y:List Nat):ltOf Uj x y=decide (rseq x<rseq y):=by
 unfold ltOf Uj Lib.compareInt;by_cases h1:rseq x<rseq y
 .simp [h1]
 .by_cases h2:rseq y<rseq x<;>simp[h1,h2]
theorem zgW:SWO (ltOf Uj)where
 irrefl x:=by rw[ltR];simp
 trans x y z h1 h2:=by rw[ltR]at*;simp at*;omega
 ntrans x y z h1 h2:=by rw[ltR]at*;simp at*;omega
theorem Zcg261{P:Prop}(h:P:=by
  go_wp2_with (go_at_call 207;refine(a _).mono ?_;rintro e w' ⟨rfl,rfl⟩)
  go_ret
  exact⟨rfl,0,_,by rw[alloc_eq_grow,alloc_eq_grow,grow_grow];rfl⟩):P:=h
theorem zft(x y:List Nat)(W:World):Calls prog 206 #[.agg (recCs x).toArray,.agg (recCs y).toArray] W fun e w'=>e=.returned (.int .i64 (Uj x y))/\∃j k,w'=Go.Sort.grow (W.drewN j) k:=by
 have a:=fun h=>AnyG.cmp_Compare_int Ec (rseq x:Nat) (rseq y:Nat) h
 change∀h,Calls prog 207 _ _ _ at a
 have hx:recCs x=[.int .i64 (rseq x:Nat),.int .i64 ((natsI x).getD 1 0),.int .i64 ((natsI x).getD 2 0),.int .i64 ((natsI x).getD 3 0),.int .i64 ((natsI x).getD 4 0),.bool ((natsI x).getD 5 0==1),.int .i64 ((natsI x).getD 6 0)]:=by
  unfold recCs dsR;rw[yK x 0];rfl
 have hy:recCs y=[.int .i64 (rseq y:Nat),.int .i64 ((natsI y).getD 1 0),.int .i64 ((natsI y).getD 2 0),.int .i64 ((natsI y).getD 3 0),.int .i64 ((natsI y).getD 4 0),.bool ((natsI y).getD 5 0==1),.int .i64 ((natsI y).getD 6 0)]:=by
  unfold recCs dsR;rw[yK y 0];rfl
 rw[hx,hy];unfold Uj;generalize Lib.compareInt (rseq x:Nat) (rseq y:Nat)=r at a⊢;clear hx hy;go_enter func206,ntmps206
 exact Zcg261
theorem zdu(w:World):(isAgg 307).run prog w=.ok true w:=kR
theorem zaT(w:World):(Go.sizeOf 307).run prog w=.ok 7 w:=kR
def Ep(w:World)(v:Value)(L:List (List Nat))(e:Ending)(w':World):Prop:=
 e=.returned (.tuple #[])/\∃L':List (List Nat),L'.Perm L/\L'.Pairwise (fun x y=>rseq x<=rseq y)/\Sl w' 307 7 v L.length (L'.flatMap recCs)/\Upd (ownS v) w w'
theorem Zcg26{P:Prop}(h:P:=by
  have D:d.extract 0 L.length=d:=by rw[<-j,Array.extract_size]
  have E:L.toArray.extract 0 L.length=L.toArray:=by rw[show L.length=L.toArray.size from by simp,Array.extract_size]
  rw[D,E]at a;exact a):P:=h
theorem WK{L:List (List Nat)}{d:Array (List Nat)}(s:PermIn 0 L.length L.toArray d)(A:SortedIn (ltOf Uj) 0 L.length d):d.size=L.length/\d.toList.Perm L/\d.toList.Pairwise (fun x y=>rseq x<=rseq y):=by
 obtain⟨h1,-,a⟩:=s;have j:d.size=L.length:=by simpa using h1
 refine⟨j,?_,?_⟩
 .exact Zcg26
 .rw [qXa];intro i k p q G;simp only[qxh]at p q;have:=A i k (qXz _) G oM;rw[ltR,getElem!_pos d i p,getElem!_pos d k q]at this;simp only[Array.getElem_toList];exact Nat.le_of_not_lt (of_decide_eq_false this)
theorem Zcg262{P:Prop}(h:P:=by
  rintro e w' ⟨rfl,rfl⟩;exact⟨rfl,[],List.Perm.refl _,List.Pairwise.nil,Sl.nil _ _ _,uur _ _⟩):P:=h
theorem Rt{L:List (List Nat)}(h:Sl w 307 7 v L.length (L.flatMap recCs))(T:L.length<=1024):
  Calls prog 205 #[v,.func (.func 206) #[] #[]] w (Ep w v L):=by
 have p:∀j w,(callFunc 206 j).run prog w=.ok (.enter 206 j) w:=enters_of func206 kR rfl;have q:=h;obtain⟨-,⟨rfl,s⟩|⟨g,A,D,U,rfl,E,-⟩⟩:=q
 .obtain rfl:=qyc s;refine(Rl _ w).mono ?_;exact Zcg262
 .have a:=AnyQ.slices_SortFunc TC 7 zdu zaT recCs (fun _=>rfl) (fun x=>wQ (natsI x)) Uj zgW 206 #[] g A D L.toArray w p (fun m os V _ x y=>zft x y _) (WC (enc:=recCs) (k:=7) (fun _=>rfl) de h) (zd E) og;simp only[qXi]at a
  change Calls prog 205 _ _ _ at a
  refine a.mono ?_;rintro e w' ⟨rfl,d,n,os,G,H,rfl⟩;obtain⟨J,M,N⟩:=WK G H;obtain⟨Q,S⟩:=ZV (enc:=recCs) (k:=7) (fun _=>rfl) de h d J n os;exact⟨rfl,d.toList,M,N,Q,S.mono (fun W _ e=>e▸rfl)⟩
def zaU(S:Nat->Prop)(w:World)(b:Nat)(F:List Bk)(O:List (Nat×Bk))(base n:Nat)(e:Ending)(w':World):Prop:=
 ∃(v:Value) (L:List (List Nat)),e=.returned (.tuple #[v,.int .i64 0])/\L.Perm (scanTo F O base n n)/\L.Pairwise (fun x y=>rseq x<=rseq y)/\Sl w' 307 7 v L.length (L.flatMap recCs)/\From w.heap.size v/\Dv (fun j=>S j/\∀g,v.ownBlock=some g->g≠j) w' b F O []/\Upd S w w'
theorem zfu{S:Nat->Prop}(A:Dv S w b F O [])(M:∀a,w.heap.size<=a->S a)(base n:Nat)(aH:1<=n)(V:n<=1024)(aw:base+n<=F.length)(D:Nib w)(N:¬S 0):
  Calls prog 135 #[.pointer (some ⟨b,0,none⟩),.int .i64 (base:Int),.int .i64 (n:Int)] w (zaU S w b F O base n):=by
 have aI:=A.good.fl;obtain⟨w1,E⟩:=qqe (((w.alloc (.cells #[.pointer (some ⟨b,0,none⟩)] 38)).alloc (.cells #[.int .i64 (base:Int)] 3)).alloc (.cells #[.int .i64 (n:Int)] 3));obtain⟨j,q⟩:=qqe (w.heap.size);have s:Upd (fun _=>False) w w1:=by rw[E];exact(((uur _ w).alloc _).alloc _).alloc _
 have af:w1.heap.size=j+3:=by rw[E,q];simp
 have ag:w1.heap[j]?=some (.cells #[.pointer (some ⟨b,0,none⟩)] 38 (0,0)):=by rw[E,q];exact(qxk _ _ _ ke).trans ((qxk _ _ _ oe).trans (zc w _ rfl))
 have W:w1.heap[j+1]?=some (.cells #[.int .i64 (base:Int)] 3 (0,0)):=by rw[E,q];exact(qxk _ _ _ oe).trans (zc _ _ oe)
 have X:w1.heap[j+2]?=some (.cells #[.int .i64 (n:Int)] 3 (0,0)):=by rw[E,q];exact zc _ _ oe
 obtain⟨ah,G⟩:=qqe (w1.alloc (.cells #[.slice none 0 0] 215));have k:=qqu G;have Y:ah.heap.size=j+4:=by rw[G];simp;omega
 have ax:ah.heap[j+3]?=some (.cells #[.slice none 0 0] 215 (0,0)):=by rw[G];exact zc w1 _ af.symm
 have aJ:=qqh (UI (A.new s) base n aH V aw aI);have aK:=qqh (Jk base n V oM ah);have aL:=za ag 0;have c1:=za W 0;have c2:=za X 0;have ay:=q;have ai:=qqh ay;have az:=k.j4 ag;have aj:=k.j4 W;have ak:=k.j4 X;have aA:=wD F O base n n;have H:=Y12 A M D N s k Y az aj ak ax aA;have aM:(w1.alloc (.cells #[.slice none 0 0] 215)).cell? ⟨j+1,0,none⟩=some (.int .i64 (base:Int)):=by rw[<-G];exact za aj 0
 have aN:(w1.alloc (.cells #[.slice none 0 0] 215)).cell? ⟨j+1+1,0,none⟩=some (.int .i64 (n:Int)):=by rw[<-G];exact za ak 0
 have aO:w1.cell? ⟨j+1,0,none⟩=some (.int .i64 (base:Int)):=za W 0;have aP:w1.cell? ⟨j+1+1,0,none⟩=some (.int .i64 (n:Int)):=za X 0;have aB:=Y2 E G;have aQ:=qqh af;clear A M D N s k Y ag W X az aj ak ax G E aL c1 c2 q ay af aA;go_enter func135,ntmps135
 go_wp2_with fail
 rw[<-aB.o.1,<-ai.o];refine aJ.o.mono ?_;rintro e w' ⟨rfl,rfl⟩;go_wp2_with fail
 rw[<-aB.o.2,aQ.o];refine aK.o.mono ?_;rintro e Z ⟨g,rfl,Q,am,an⟩;have z3:=an.size;have p:=uuo (S:=fun _=>False) an;have aC:=p.j4 (H.o.2.2.2.2.2.2.2.1);have q1:=p.j4 (H.o.2.2.2.2.2.2.2.2.1);have q2:=p.j4 (H.o.2.2.2.2.2.2.2.2.2.1);have aD:=p.j4 (H.o.2.2.2.2.2.2.2.2.2.2.1);have ao:Calls prog 201 #[.slice (some ⟨g,0,none⟩) n n,.func (.func 203) #[] #[.pointer (some ⟨j,0,none⟩),.pointer (some ⟨j+2,0,none⟩),.pointer (some ⟨j+1,0,none⟩),.pointer (some ⟨j+3,0,none⟩)]] Z fun e w'=>
   e=.returned (.int .i64 0)/\ScI (fun a=>(S a/\a<j)\/Z.heap.size<=a) Z b (j+3) F O (scanTo F O base n n) w':=by
  obtain⟨A,M,D,N,s,k,Y,-⟩:=H.o;have q:=ai.o;have aZ:=zd Q;have aR:Dv (fun a=>S a/\a<j) Z b F O []:=(((A.kI (T:=fun a=>S a/\a<j) (fun a h1 h2=>⟨h1,oM⟩)).new s).new k).new p;refine zdl ⟨uur _ _,.slice none 0 0,fun a=>S a/\a<j,aD,Sl.nil _ _ _,From.nil _ _ _,aR,fun a h=> .inl h,fun a h=>oM,fun g h=>by cases h⟩ (fun a h=> .inr h) ⟨oM,by intro h;omega⟩ ⟨za aC 0,by intro h;omega,oM⟩ ⟨za q2 0,by intro h;omega,oM⟩ ⟨za q1 0,by intro h;omega,oM⟩ ⟨Q,by intro h;omega,oM⟩ V aw (((D.keep s id).keep k id).keep p id) ⟨fun h=>?_,?_⟩
  .rcases h with h|h
   .exact N h.1
   .have:=D.lt;omega
  .have:=D.lt;omega
 have ao:=qqh ao;have aS:=Y3 p am z3;clear aC q1 q2 aD Q p z3 am an aM aN aO aP;go_wp2_with fail
 refine ao.o.mono ?_;rintro e b0 ⟨rfl,aT⟩;obtain⟨a6,v,b1,a7,ap,J,a8,aa,aq,U⟩:=aT;obtain⟨ab,ad,rfl⟩:=ap.rd.j6;have aE:=za a7 0;have aU:=qqh (Rt ap (qXr H.o.2.2.2.2.2.2.2.2.2.2.2 V));have aV:=Y7 a6 a7 J a8 aa aq U;clear a6 a7 ap J a8 aa aq U;go_wp2_with fail
 refine aU.out.mono ?_;rintro e ar ⟨rfl,aW,au,aF,aG,ae⟩;have av:(Dv (fun a=>S a/\∀g,(Value.slice ab (scanTo F O base n n).length ad).ownBlock=some g->g≠a) ar b F O []/\Upd S w ar)/\(From w.heap.size (.slice ab (scanTo F O base n n).length ad)/\ar.cell? ⟨j+3,0,none⟩=some (.slice ab (scanTo F O base n n).length ad)):=by
  obtain⟨A,M,D,N,s,k,Y,-⟩:=H.o;obtain⟨p,am,z3⟩:=aS.o;obtain⟨a6,a7,J,a8,aa,aq,U⟩:=aV.o;have q:=ai.o;refine⟨⟨?_,?_⟩,J.mono oM,?_⟩
  .refine (a8.keep ae (fun a h1 h2=>U a h2 h1)).wide (fun a h=>⟨?_,fun g Q e=>U g Q (e▸h)⟩);rcases aa a h with h|h
   .exact h.1
   .exact M a oM
  .refine ((((s.trans k).mono fE).trans (p.mono fE)).new a6 (fun a aX h=>?_)).new ae (fun a aX h=>?_)
   .rcases h with(h|h)|h
    .exact h.1
    .omega
    .omega
   .have:=J a h;omega
  .refine ae.j3 aE (fun h=>?_);have:=J _ h;omega
 have b2:=av.2.2;have L:=Y4 av au aF aG;have aY:=au.length_eq;clear av au aF aG ae aE;go_wp2_with fail
 refine qYq (v:=.tuple #[.slice ab (scanTo F O base n n).length ad,.int .i64 0]) (by simp[results,results135,go_sem]) rfl ?_;exact⟨_,aW,rfl,L.out.2.1,L.out.2.2.1,by rw[aY];have:=L.out.2.2.2;exact this,L.out.1.2.1,L.out.1.1.1,L.out.1.1.2⟩
def Uk(x y:EI):Int:=Lib.compareInt x.b y.b
theorem ltE(x y:EI):ltOf Uk x y=decide (x.b<y.b):=by
 unfold ltOf Uk Lib.compareInt;by_cases h1:x.b<y.b
 .simp [h1]
 .by_cases h2:y.b<x.b<;>simp[h1,h2]
theorem zgX:SWO (ltOf Uk)where
 irrefl x:=by rw[ltE];simp
 trans x y z h1 h2:=by rw[ltE]at*;simp at*;omega
 ntrans x y z h1 h2:=by rw[ltE]at*;simp at*;omega
theorem zdv(x y:EI)(W:World):Calls prog 209 #[.agg x.cs.toArray,.agg y.cs.toArray] W fun e w'=>e=.returned (.int .i64 (Uk x y))/\∃j k,w'=Go.Sort.grow (W.drewN j) k:=by
 have a:=fun h=>AnyG.cmp_Compare_int Ec x.b y.b h
 change∀h,Calls prog 207 _ _ _ at a
 obtain⟨p,b,c,d⟩:=x;obtain⟨q,s,A,D⟩:=y;unfold Uk EI.cs;dsimp only at a⊢;generalize Lib.compareInt p q=r at a⊢;go_enter func209,ntmps209
 exact Zcg261
theorem zdw(w:World):(isAgg 155).run prog w=.ok true w:=kR
theorem zaV(w:World):(Go.sizeOf 155).run prog w=.ok 4 w:=kR
def Eq(w:World)(v:Value)(L:List EI)(e:Ending)(w':World):Prop:=
 e=.returned (.tuple #[])/\∃L':List EI,L'.Perm L/\L'.Pairwise (fun x y=>x.b<=y.b)/\Sl w' 155 4 v L.length (L'.flatMap EI.cs)/\Upd (ownS v) w w'
theorem YT{L:List EI}{d:Array EI}[Inhabited EI](s:PermIn 0 L.length L.toArray d)(A:SortedIn (ltOf Uk) 0 L.length d):d.toList.Perm L/\d.size=L.length/\d.toList.Pairwise (fun x y=>x.b<=y.b):=by
 obtain⟨h1,-,a⟩:=s;have j:d.size=L.length:=by simpa using h1
 refine⟨?_,j,?_⟩
 .exact Zcg26
 .rw [qXa];intro i k p q G;simp only[qxh]at p q;have:=A i k (qXz _) G oM;rw[ltE,getElem!_pos d i p,getElem!_pos d k q]at this;simp only[Array.getElem_toList];exact Int.not_lt.1 (of_decide_eq_false this)
instance:Inhabited EI:=⟨EI.zero⟩
theorem Ru{L:List EI}(h:Sl w 155 4 v L.length (L.flatMap EI.cs))(T:L.length<=1048576):
  Calls prog 208 #[v,.func (.func 209) #[] #[]] w (Eq w v L):=by
 have p:∀j w,(callFunc 209 j).run prog w=.ok (.enter 209 j) w:=enters_of func209 kR rfl;have q:=h;obtain⟨-,⟨rfl,s⟩|⟨g,A,D,U,rfl,E,-⟩⟩:=q
 .obtain rfl:=qyc s;refine(Rm _ w).mono ?_;exact Zcg262
 .have a:=AnyQ.slices_SortFunc TD 4 zdw zaV EI.cs (fun _=>rfl) EI.one Uk zgX 209 #[] g A D L.toArray w p (fun m os V _ x y=>zdv x y _) (WC (enc:=EI.cs) (k:=4) (fun _=>rfl) de h) (zd E) og;simp only[qXi]at a
  change Calls prog 208 _ _ _ at a
  refine a.mono ?_;rintro e w' ⟨rfl,d,n,os,G,H,rfl⟩;obtain⟨J,M,N⟩:=YT G H;obtain⟨Q,S⟩:=ZV (enc:=EI.cs) (k:=4) (fun _=>rfl) de h d M n os;exact⟨rfl,d.toList,J,N,Q,S.mono (fun W _ e=>e▸rfl)⟩
end
section
open Go.Shelf Go.Lib
theorem zaW(w:World):(zeroValue 155).run prog w=.ok EI.zero.enc w:=kR
theorem YU:(prog.info? 155).map (·.size)=some 4:=kR
theorem zdx(b s:Int)(d:Bool)(x:Int)(W:World):(Instr.build 155 #[(0,.int .i64 b),(1,.int .i64 s),(2,.bool d),(3,.int .i64 x)]).run prog W=.ok (.agg #[.int .i64 b,.int .i64 s,.bool d,.int .i64 x]) W:=by
 kernel_rfl
def zfv(w:World)(l:List EI)(rs:List (List Int))(e:Ending)(w':World):Prop:=
 ∃(v:Value) (L:List EI) (c:Int),e=.returned (.tuple #[v,.int .i64 c])/\Sl w' 155 4 v L.length (L.flatMap EI.cs)/\From w.heap.size v/\Below w.heap.size w w'/\
  ((c=12/\L=[]/\(¬(l.map EI.b).Nodup\/∃L0,Lists (apRs (apM l) rs) L0/\¬(L0.map EI.s).Nodup))\/
   (c=0/\(l.map EI.b).Nodup/\Lists (apRs (apM l) rs) L/\(L.map EI.s).Nodup/\L.Pairwise (fun x y=>x.b<y.b)))
theorem zdy{u:Value}{l:List EI}{rs:List (List Int)}(ad:Rd w 4 v l.length (l.flatMap EI.cs))(aI:Rd w 7 u rs.length (rs.flatMap dsR))(dt:l.length<=65536)(du:rs.length<=65536)
  (c3:∀e∈l,Ar e.b/\Ar e.s) (c4:∀r∈rs,Ar (r.getD 3 0)/\Ar (r.getD 4 0)):
  Calls prog 137 #[v,u] w (zfv w l rs):=by
 obtain⟨dw,dx,rfl⟩:=ad.j6;obtain⟨bo,dy,rfl⟩:=aI.j6;have be:= @run_makeMap prog;obtain⟨a6,aB⟩:=qqe (w.heap.size);obtain⟨w1,aJ⟩:=qqe (w.alloc (.map #[] 0));have c5:Below w.heap.size w w1:=by rw[aJ];exact(qxl _ w).alloc (qXp _) _
 have aW:MapG EI.enc w1 a6 0 (apM []):=by rw[aJ,aB];exact MapG.made w
 have c6:w1.heap.size=a6+1:=by rw[aJ,aB];simp
 have V:=Y2 aJ aB;have ae:=Y7 ad aI c3 c4 c5 aW c6;clear ad aI c3 c4 c5 aW c6 aJ aB;go_enter func137,ntmps137
 go_wp2_with fail
 rw[<-V.o.1,<-V.o.2];clear be;go_loopg[20] l.length (fun gk cZ wr=>∃a:Nat,a+gk=l.length/\cZ=.int .i64 (a:Int)/\MapG EI.enc wr a6 a (apM (l.take a))/\((l.take a).map EI.b).Nodup/\Below w.heap.size w wr)
 case atStart=>exact⟨0,oM,rfl,ae.o.2.2.2.2.2.1,qzy,ae.o.2.2.2.2.1⟩
 case round=>
  obtain⟨a,bf,rfl,J,aC,k⟩:=hrel;by_cases hlt:a<l.length
  .have d0:(a:Int)<(l.length:Int):=oM;have d1:(0:Int)<=(a:Int):=oM;obtain⟨g,o,d2,e,bg,aK⟩:=ae.o.1.at oM;cases e;have hx:=xP (enc:=EI.cs) (m:=4) (fun _=>rfl) aK hlt;have W:=ae.o.2.2.1 _ (qyv hlt);have D:=Ju l hlt;have aX:= @VS l a hlt aC;have aY:= @QZ l a hlt;obtain⟨x,aL⟩:=qqe (l[a]);rw[<-aL]at hx W D aX aY;have au:wr.rangeAt g (o+a*4) x.cs:=Below.range k hx;obtain⟨cs,q⟩:=qqe (x.cs);rw[<-q]at au;obtain⟨L,a7⟩:=qqe (wr.alloc (.cells cs.toArray 155));have av:=qqu a7;have T:L.heap[wr.heap.size]?=some (.cells x.cs.toArray 155 (0,0)):=by rw[a7,q];exact zc wr _ rfl
   obtain⟨X,U⟩:=qqe (wr.heap.size);rw[<-U]at T;have aZ:L.cell? ⟨X,0,none⟩=some (.int .i64 x.b):=za T 0;have bh:=zg T;rw[<-q]at bh;have af:=J.keep av id;have ag:=af.look EI.enc_inj underlying313 (zaW L) W.1.1 W.1.2;obtain⟨y,hy⟩:=qqe ((apM (l.take a) x.b).getD EI.zero);obtain⟨ok,bi⟩:=qqe ((apM (l.take a) x.b).isSome);rw[<-hy,<-bi]at ag;rw[<-bi]at aX aY;unfold EI.enc at ag;have bj:=y.one;have b0:y.cs.length=4:=rfl;obtain⟨bn,bp⟩:=qqe (y.cs);rw[<-bp]at ag bj b0;have aM:=k.trans ((Upd.below av).mono k.size);have M:cs.length=4:=by rw[q];rfl
   have ah:∀v∈cs,v.oneCell'=true:=by rw[q];exact x.one
   have Y:(prog.info? 155).map (·.size)=some cs.length:=by rw[M];exact YU
   have c7:(prog.info? 155).map (·.size)=some bn.length:=by rw[b0];exact YU
   have HX:=Y4 M Y ah bh;have bq:=Y4 b0 c7 bj bp;have aD:=Y3 a7 U q;have s:=Y7 af aM D aX aY W aC;clear J aC k aK hx W D aX aY aL q a7 av T U bh af hy bi bj b0 bp aM M ah Y c7 bg;go_wp2_with (first
    |(refine qYz rfl 155 _ rfl _ _ rfl _ _ au underlying155 rfl HX.o.2.1 ?_)
    |(refine zk rfl _ _ _ rfl _ _ cs rfl rfl jY HX.o.2.1 HX.o.2.2.1 ?_;refine Stop.i ?_)
    |fail)
   rw[<-aD.o.1,<-aD.o.2.1];unfold Stop;clear au;go_wp2_with (first
    |(refine zk rfl _ _ _ rfl _ _ bn rfl rfl (by rw[bq.o.1];rfl) bq.o.2.1 bq.o.2.2.1 ?_;refine Stop.i ?_)
    |fail)
   obtain⟨dz,b1⟩:=qqe (L.alloc (.cells bn.toArray 155));rw[<-b1];have aE:=qqu b1;clear ag;have c8:=aE.j3 aZ id;have d3:=aE.range HX.o.2.2.2 id;have br:=s.o.1.keep aE id;have b2:=s.o.2.1.trans ((Upd.below aE).mono s.o.2.1.size);clear aZ;cases ok with
   |true=>
    have G:=Y2 b2 (s.o.2.2.2.2.1 rfl);clear br b2 aE b1;unfold Stop;go_wp2_with fail
    refine qYq (v:=.tuple #[.slice none 0 0,.int .i64 12]) jm rfl ?_;exact⟨_,[],12,rfl,Sl.nil _ _ _,From.nil _ _ _,G.o.1,.inl ⟨rfl,rfl,.inl G.o.2⟩⟩
   |false=>
    obtain⟨aF,ai,aj,ak,z4⟩:=br.store EI.enc_inj underlying313 s.o.2.2.2.2.2.1.1.1 s.o.2.2.2.2.2.1.1.2 x (show a<maxLen by unfold maxLen;omega);unfold EI.enc at ai;rw[<-aD.o.2.2]at ai;have dA:=s.o.1.lt;have am:Below w.heap.size w aF:=zj b2 ak (qXp _) (fun an N=>by rw[N,V.o.2];exact qXp _);have G:=Y3 aj am (s.o.2.2.2.1 rfl);clear br b2 aE b1 aj ak z4 am;unfold Stop;go_wp2_with (first
     |(refine qYz rfl 155 _ rfl _ _ rfl _ _ d3 underlying155 rfl HX.o.2.1 ?_)
     |fail)
    go_roundg (gk-1)
    case measure=>omega
    case rel=>
     refine⟨a+1,oM,by go_num,?_,G.o.2.2,G.o.2.1⟩;rw[s.o.2.2.1];exact G.o.1
  .obtain rfl:a=l.length:=oM;have d0:¬((l.length:Int)<(l.length:Int)):=oM;rw[qXk (qXp _)]at J aC;have aB:=V.o.2;obtain⟨c9,cb⟩:∃c9:World,c9=wr:=⟨_,rfl⟩
   rw[<-cb]at J k⊢;have bs:=Y3 J aC k;clear J aC k aB cb bf;go_wp2_with fail
   obtain⟨dB,d4⟩:∃x,x=gk:=⟨_,rfl⟩
   clear d4;go_loopg[39] rs.length (fun gk d5 wr=>∃a:Nat,a+gk=rs.length/\d5=.int .i64 (a:Int)/\MapG EI.enc wr a6 (l.length+a) (apRs (apM l) (rs.take a))/\Below w.heap.size w wr)
   case atStart=>exact⟨0,oM,rfl,bs.o.1,bs.o.2.2⟩
   case round=>
    obtain⟨a,bf,rfl,J,k⟩:=hrel;by_cases bt:a<rs.length
    .have d6:(a:Int)<(rs.length:Int):=oM;have d1:(0:Int)<=(a:Int):=oM;obtain⟨g,o,d2,e,bg,aK⟩:=ae.o.2.1.at oM;cases e;have hx:=xP (enc:=dsR) (m:=7) (fun _=>rfl) aK bt;have W:=ae.o.2.2.2.1 _ (qyv bt);have D:=Ra (apM l) rs bt;obtain⟨x,aL⟩:=qqe (rs[a]);rw[<-aL]at hx W D;have au:wr.rangeAt g (o+a*7) (dsR x):=Below.range k hx;obtain⟨cs,q⟩:=qqe (dsR x);rw[<-q]at au;obtain⟨L,a7⟩:=qqe (wr.alloc (.cells cs.toArray 307));have av:=qqu a7;have T:L.heap[wr.heap.size]?=some (.cells (dsR x).toArray 307 (0,0)):=by rw[a7,q];exact zc wr _ rfl
     obtain⟨X,U⟩:=qqe (wr.heap.size);rw[<-U]at T;have aZ:L.cell? ⟨X,2,none⟩=some (.int .i64 (x.getD 2 0)):=za T 2;have c8:L.cell? ⟨X,3,none⟩=some (.int .i64 (x.getD 3 0)):=za T 3;have d7:L.cell? ⟨X,4,none⟩=some (.int .i64 (x.getD 4 0)):=za T 4;have d8:L.cell? ⟨X,5,none⟩=some (.bool (x.getD 5 0==1)):=za T 5;have d9:L.cell? ⟨X,6,none⟩=some (.int .i64 (x.getD 6 0)):=za T 6;obtain⟨kd,bu⟩:∃y,y=x.getD 2 0:=⟨_,rfl⟩
     obtain⟨aw,b3⟩:∃y,y=x.getD 3 0:=⟨_,rfl⟩
     obtain⟨aN,bv⟩:∃y,y=x.getD 4 0:=⟨_,rfl⟩
     obtain⟨aO,bx⟩:∃y,y=(x.getD 5 0==1):=⟨_,rfl⟩
     obtain⟨aP,bz⟩:∃y,y=x.getD 6 0:=⟨_,rfl⟩
     rw[<-bu]at aZ;rw[<-b3]at c8 W;rw[<-bv]at d7;rw[<-bx]at d8;rw[<-bz]at d9;have cc:recE x=⟨aw,aN,aO,aP⟩:=by rw[b3,bv,bx,bz];rfl
     have cd:apR (apRs (apM l) (rs.take a)) x=fun b4=>if b4=aw then(if kd=0 then some ⟨aw,aN,aO,aP⟩else none)else(apRs (apM l) (rs.take a)) b4:=by
      unfold apR;rw[cc,<-b3,<-bu]
     have af:=J.keep av id;have aM:=k.trans ((Upd.below av).mono k.size);have M:cs.length=7:=by rw[q];rfl
     have ah:∀v∈cs,v.oneCell'=true:=by rw[q];exact wQ x
     have Y:(prog.info? 307).map (·.size)=some cs.length:=by rw[M];exact infoThR
     have HX:=Y3 M Y ah;have aD:=Y2 a7 U;rw[cd]at D;have s:=Y4 af aM D W;clear J k aK hx W D aL q a7 av T U af aM M ah Y bg cc cd bu b3 bv bx bz;go_wp2_with (first
      |(refine qYz rfl 307 _ rfl _ _ rfl _ _ au underlying307 rfl HX.o.2.1 ?_)
      |(refine zk rfl _ _ _ rfl _ _ cs rfl rfl jY HX.o.2.1 HX.o.2.2 ?_;refine Stop.i ?_)
      |fail)
     rw[<-aD.o.1,<-aD.o.2];clear au;by_cases bA:kd=0
     .obtain ⟨aF,ai,aj,ak,z4⟩:=s.o.1.store EI.enc_inj underlying313 s.o.2.2.2.1.1 s.o.2.2.2.1.2 ⟨aw,aN,aO,aP⟩ (show l.length+a<maxLen by unfold maxLen;omega);have dC:(Instr.mapUpdate 313 (.map (some a6)) (.int .i64 aw) (.agg #[.int .i64 aw,.int .i64 aN,.bool aO,.int .i64 aP])).run prog L=.ok () aF:=ai;have am:Below w.heap.size w aF:=zj s.o.2.1 ak (qXp _) (fun an N=>by rw[N,V.o.2];exact qXp _);have D:=s.o.2.2.1;simp only[if_pos bA]at D;have dD:=zdx aw aN aO aP L;have G:=Y3 aj am D;clear aj ak z4 am ai D;subst bA;unfold Stop;go_wp2_with fail
      go_roundg (gk-1)
      case measure=>omega
      case rel=>
       refine⟨a+1,oM,by go_num,?_,G.o.2.1⟩;rw[G.o.2.2];exact G.o.1
     .obtain ⟨aF,ai,aj,ak,z4⟩:=s.o.1.drop underlying313 s.o.2.2.2.1.1 s.o.2.2.2.1.2 0;have am:Below w.heap.size w aF:=zj s.o.2.1 ak (qXp _) (fun an N=>by rw[N,V.o.2];exact qXp _);have D:=s.o.2.2.1;simp only[if_neg bA]at D;have G:=Y3 aj am D;clear aj ak z4 am D;unfold Stop;go_wp2_with fail
      go_roundg (gk-1)
      case measure=>omega
      case rel=>
       refine⟨a+1,oM,by go_num,?_,G.o.2.1⟩;rw[G.o.2.2];exact G.o.1.mono oM
    .obtain rfl:a=rs.length:=oM;have d6:¬((rs.length:Int)<(rs.length:Int)):=oM;rw[qXk (qXp _)]at J;have be:= @run_makeMap prog;obtain⟨E,b5⟩:=qqe (wr.heap.size);obtain⟨bB,aG⟩:=qqe (wr.alloc (.map #[] 0));have bC:=qqu aG;have bD:MapC (Value.int .i64) bB E 0 (takenF []) 0:=by rw[aG,b5];exact MapC.made wr
     have bE:=J.keep bC id;have bF:=bE;rw[aG]at bF;have ce:=k.trans ((Upd.below bC).mono k.size);have da:E<bB.heap.size:=bD.g.lt;have z5:bB.heap.size=E+1:=by rw[aG,b5];simp
     have cf:a6<E:=by have:=J.lt;omega
     have bG:=Y2 aG b5;have aQ:=Y5 bD bE ce cf z5;have db:=qqh bF;clear J k aG bC bD bE ce da cf b5 bf bF z5;go_wp2_with (first
      |(at_range;refine xQ rfl _ 313 rfl underlying313 rfl db.out ?_;intro dc H b6 bH;refine Stop.i ?_)
      |fail)
     rw[<-bG.o.1]at H b6 bH
     try rw[<-bG.o.1]
     rw[aQ.o.2.2.2.2]at H bH;rw[<-bG.o.2];obtain⟨ch,ci,H⟩:=H;obtain⟨F,aR⟩:=qqe (apRs (apM l) rs);have cj:AtB F:=by rw[aR];exact zap rs _ (zcT l)
     have cl:∀b4 e,F b4=some e->Ar e.b/\Ar e.s:=by
      rw[aR];exact Jw (p:=fun e=>Ar e.b/\Ar e.s) ae.o.2.2.1 (fun r aI=>ae.o.2.2.2.1 r aI)
     rw[<-aR]at H;have co:E+1=E+1:=rfl;have cp:Below w.heap.size w dc:=aQ.o.2.2.1.trans ((Upd.below b6).mono aQ.o.2.2.1.size);have cq:=aQ.o.1.keep b6 id;have Q:=Y9 aR cj cl co cp cq ci H aQ.o.2.2.2.1;clear aR cj cl co cp cq ci H b6 bH be;unfold Stop;go_wp2_with fail
     obtain⟨dE,dd⟩:∃x,x=gk:=⟨_,rfl⟩
     clear dd;go_loopg[14] ch (fun gk cr wr=>∃(j:List EI) (left:Int->Bool) (c:Nat),j.length+gk<=ch/\YA EI.enc wr a6 (E+1) (l.length+rs.length) F left gk/\MapC (Value.int .i64) wr E j.length (takenF j) c/\c<=j.length/\(c=j.length↔(j.map EI.s).Nodup)/\
      Sl wr 155 4 cr j.length (j.flatMap EI.cs)/\From (E+2) cr/\Below w.heap.size w wr/\(j.map EI.b).Nodup/\∀e,e∈j↔F e.b=some e/\left e.b=false)
     case atStart=>exact⟨[],_,0,oe,Q.o.2.2.2.2.2.2.2.1,Q.o.2.2.2.2.2.1,qXp _,oe,Sl.nil _ _ _,From.nil _ _ _,Q.o.2.2.2.2.1,qzy,fun e=>⟨fun h=>ki,fun h=>(by have h1:=h.2;rw[h.1]at h1;cases h1)⟩⟩
     case round=>
      obtain⟨j,left,c,ax,H,ao,ah,ap,hsl,Z,k,a8,aq⟩:=hrel;have ct:=Y10 ax ao ah ap hsl Z k a8 aq H;clear ax ao ah ap hsl Z k a8 aq;go_wp2_with (first
       |(at_next;refine wj rfl _ rfl rfl H (fun cu=>Stop.i ?_) (fun x S b7 cv b8 ay b9 df bI=>Stop.i ?_))
       |fail)
      .obtain ⟨ax,ao,M,ap,hsl,Z,k,a8,aq,-⟩:=ct.o;clear H;obtain⟨cx,cy,rfl⟩:=hsl.rd.j6;have cz:Lists F j:=⟨a8,fun e=>(aq e).trans ⟨fun h=>h.1,fun h=>⟨h,cu _⟩⟩⟩
       have dF:=ao.len underlying168 3;have dg:j.length<=131072:=by have:=Q.o.2.2.2.2.2.2.1;omega
       have dh:=qqh (Ru hsl oM);have di:a6=w.heap.size:=V.o.2;have bJ:=Q.o.2.2.2.2.2.2.2.2;have cA:From w.heap.size (.slice cx j.length cy):=Z.mono oM;have aa:=Y5 cz ap cA k a8;have dG:=qqh M;clear ax ao M ap hsl Z k a8 aq cu di bJ cA cz;unfold Stop;by_cases ay:c=j.length
       .have bK:=qqh ay;have Y:((c:Nat):Int)=(j.length:Int):=by rw[ay]
        clear ay;go_wp2_with fail
        refine dh.out.mono ?_;rintro e aH ⟨rfl,dj,az,ad,ba,ar⟩;have aA:Below w.heap.size w aH:=zj aa.o.2.2.2.1 ar (qXp _) (fun an N=>aa.o.2.2.1 an N);have dk:=Y4 az ad ba aA;clear az ad ba ar aA;go_wp2_with fail
        refine qYq (v:=.tuple #[.slice cx j.length cy,.int .i64 0]) jm rfl ?_;obtain⟨az,ad,ba,aA⟩:=dk.out;have dm:=az.length_eq;refine⟨_,dj,0,rfl,by rw[dm];exact ba,aa.o.2.2.1,aA,.inr ⟨rfl,bs.o.2.1,?_,?_,Rb az aa.o.2.2.2.2 ad⟩⟩
        .rw [<-Q.o.1];exact VU aa.o.1 az
        .exact (az.map EI.s).nodup_iff.2 (aa.o.2.1.1 bK.o)
       .have bK:=qqh ay;have Y:¬((c:Nat):Int)=(j.length:Int):=oM;clear ay;go_wp2_with fail
        refine qYq (v:=.tuple #[.slice none 0 0,.int .i64 12]) jm rfl ?_;exact⟨_,[],12,rfl,Sl.nil _ _ _,From.nil _ _ _,aa.o.2.2.2.1,.inl ⟨rfl,rfl,.inr ⟨j,by rw[<-Q.o.1];exact aa.o.1,fun h=>bK.o (aa.o.2.1.2 h)⟩⟩⟩
      .clear H;obtain⟨dn,cB,bL⟩:=ay;have cC:=Q.o.2.1 x S b8;have aS:=(Q.o.2.2.1 x S b8).2;have bM:=S.one;unfold EI.enc at bI⊢;obtain⟨cs,q⟩:=qqe (S.cs);rw[<-q]at bI bM;rw[<-q];obtain⟨bN,bb⟩:=qqe (b7.alloc (.cells cs.toArray 155));have aT:=qqu bb;have bc:bN.heap[b7.heap.size]?=some (.cells S.cs.toArray 155 (0,0)):=by rw[bb,q];exact zc b7 _ rfl
       obtain⟨X,U⟩:=qqe (b7.heap.size);rw[<-U]at bc;have dp:bN.cell? ⟨X,1,none⟩=some (.int .i64 S.s):=za bc 1;have bO:=zg bc;rw[<-q]at bO;obtain⟨ax,ao,M,ap,hsl,Z,k,a8,aq,H⟩:=ct.o;have bJ:=Q.o.2.2.2.2.2.2.2.2;have dq:=bL.lt.2;have bP:=(ao.keep b9 oM).keep aT id;have ag:=bP.g.look1 (enc:=Value.int .i64) (fun x y h=>by injection h) underlying168 (z0:=0) (Sm bN) aS.1 aS.2;rw[Wp]at ag;have dr:=zar j S.s;obtain⟨bQ,bR⟩:=qqe (cntS j S.s);rw[<-bR]at ag dr;have dg:j.length<=131072:=by have:=Q.o.2.2.2.2.2.2.1;omega
       have ds:IntKind.i64.wrap ((bQ:Int)+1)=(bQ:Int)+1:=qxu _ oM;obtain⟨aH,ai,bS,ar,z9⟩:=bP.store (enc:=Value.int .i64) (fun x y h=>by injection h) underlying168 aS.1 aS.2 ((bQ:Int)+1) (show j.length<maxLen by unfold maxLen;omega);have cD:X≠E:=oM;have cE:=ar.range bO cD;have cF:=(hsl.keep b9 (fun g bT h=>by have:=Z g bT;omega)).keep aT (fun _ _ h=>h);have cG:=cF.keep ar (fun g bT h=>by have:=Z g bT;omega);have cH:=Jy S M ap;have cI:=VT b8 cC cv a8 aq;have bU:=Wn j S;rw[<-bR]at bU;have aA:Below w.heap.size w aH:=zj (zj (zj k b9 (qXp _) (fun an N=>by have:=V.o.2;omega)) aT (qXp _) (fun an N=>N.elim)) ar (qXp _) (fun an N=>by have:=V.o.2;omega);have bV:=(bL.keep aT id id).keep ar (show¬a6=E by omega) (show¬E+1=E by omega);have bW:cs.length=4:=by rw[q];rfl
       have Y:(prog.info? 155).map (·.size)=some cs.length:=by rw[bW];exact YU
       have cJ:E+2<=aH.heap.size:=by have:=bV.lt.2;omega
       rw[<-bU]at bS;obtain⟨cK,cL,cM,cN,cO,cP,cQ⟩:=WB;have ab:=Y5 cM cN cO cP cQ;have aW:Hid (j.length+1<=maxLen):=by show _<=_;unfold maxLen;omega
       have af:Hid ((j.length+1)*32<=140737488355328):=by show _<=_;omega
       have HX:=Y4 bW Y bM q;have cR:=Y2 bb U;have A:=Y10 cG Z aA bV bS cH cI cJ ax cB;clear ax ao M ap hsl Z k a8 aq H dq bP bR ar z9 cD cF cG cH cI bU aA bV bL cB bW Y cJ bS cM cN cO cP cQ bM q bb U aT bc b9 df cC aS cv b8 bJ bO;unfold Stop;go_wp2_with (first
        |(refine zk rfl _ _ _ rfl _ _ cs rfl rfl jY HX.o.2.1 HX.o.2.2.1 ?_;refine Stop.i ?_)
        |fail)
       rw[<-cR.o.1,<-cR.o.2];unfold Stop;go_wp2_with (first
        |(refine qYz rfl 155 _ rfl _ _ rfl _ _ cE underlying155 rfl HX.o.2.1 ?_)
        |(refine yB rfl 146 155 _ rfl 4 de underlying146 ⟨cK,cL,ab.o.1,ab.o.2.1,ab.o.2.2.1,ab.o.2.2.2.1⟩ de cs rfl HX.o.1 ?_)
        |(at_builtin;refine zK rfl _ _ 146 rfl cK cL 32 underlying146 ab.o.1 ab.o.2.1 ab.o.2.2.2.1 ab.o.2.2.2.2 ab.o.2.2.1 de rfl A.o.1 cs rfl HX.o.1 HX.o.2.2.1 aW.out af.out ?_;intro dH bX bY cT aU;obtain⟨bZ,c0,rfl⟩:=bY.rd.j6;refine Stop.i ?_)
        |fail)
       unfold Stop;have bd:Upd (ownS u14) aH bX:=cT;have cU:blockFrom aH u14 (.slice bZ (j.length+1) c0):=aU;clear cT aU;have cV:From (E+2) (.slice bZ (j.length+1) c0):=cU.ge A.o.2.2.2.2.2.2.2.1 A.o.2.1;have cW:=A.o.2.2.2.1.keep bd (fun h=>by have:=A.o.2.1 _ h;have:=Q.o.2.2.2.2.2.2.2.2;omega) (fun h=>by have:=A.o.2.1 _ h;omega);have cX:=A.o.2.2.2.2.1.keep bd (fun h=>by have:=A.o.2.1 _ h;omega);have aU:Below w.heap.size w bX:=zj A.o.2.2.1 bd (qXp _) (fun an N=>by have:=A.o.2.1 _ N;have:=V.o.2;have:=Q.o.2.2.2.2.2.2.2.2;omega);have cY:Sl bX 155 4 (.slice bZ (j.length+1) c0) (j++[S]).length ((j++[S]).flatMap EI.cs):=by
        simp only[qyz,qye,qyf,List.flatMap_nil,qxx,qza,qzd];rw[<-HX.o.2.2.2];exact bY
       have aV:=Y5 cV cW cX aU cY;clear cV cW cX aU cY bY bd cU ai ag bI cE dp ds;go_wp2_with fail
       go_roundg dn
       case measure=>exact A.o.2.2.2.2.2.2.2.2.2
       case rel=>
        refine⟨j++[S],_,_,?_,aV.o.2.1,?_,A.o.2.2.2.2.2.1.1,A.o.2.2.2.2.2.1.2,aV.o.2.2.2.2,aV.o.1,aV.o.2.2.2.1,A.o.2.2.2.2.2.2.1.1,A.o.2.2.2.2.2.2.1.2⟩
        .have h1:=A.o.2.2.2.2.2.2.2.2.1;have h2:=A.o.2.2.2.2.2.2.2.2.2;simp only[qyz,qza,qzd];omega
        .simp only[qyz,qza,qzd];exact aV.o.2.2.1
def TH(S:Nat->Prop)(w:World)(b:Nat)(F:List Bk)(O:List (Nat×Bk))(jo pa:Nat)(e:Ending)(w':World):Prop:=
 ∃(v:Value) (L:List EI) (wh sq:Nat) (c:Int),e=.returned (.tuple #[.int .i64 (wh:Int),.int .i64 (sq:Int),v,.int .i64 c])/\Sl w' 155 4 v L.length (L.flatMap EI.cs)/\From w.heap.size v/\Dv (fun j=>S j/\∀g,v.ownBlock=some g->g≠j) w' b F O []/\Upd S w w'/\
  ((c=14/\L=[]/\(nwS F O 1 pa 2).1=false)\/
   (nwS F O 1 pa 2).1=true/\∃R:List (List Nat),R.Perm (scanTo F O (1+2*pa) jo jo)/\R.Pairwise (fun x y=>rseq x<=rseq y)/\
    ∃r:RepS,r=repS R (nwS F O 1 pa 2).2.2.1/\
    ((c=12/\L=[]/\(¬(((nwS F O 1 pa 2).2.2.2.map Ent.toI).map EI.b).Nodup\/∃L0,Lists (apRs (apM ((nwS F O 1 pa 2).2.2.2.map Ent.toI)) (r.d.map natsI)) L0/\¬(L0.map EI.s).Nodup))\/
    (c=0/\wh=(nwS F O 1 pa 2).2.1/\sq=r.g/\Lists (apRs (apM ((nwS F O 1 pa 2).2.2.2.map Ent.toI)) (r.d.map natsI)) L/\(L.map EI.s).Nodup/\L.Pairwise (fun x y=>x.b<y.b))))
theorem Es{S:Nat->Prop}(aG:Dv S w b F O [])(aH:∀a,w.heap.size<=a->S a)(aI:Nib w)(aJ:¬S 0)
  (id:Int) (bl sl j k p Q:Nat) (b9:1<=bl) (ba:bl<=4096) (bb:1<=sl) (bc:sl<=1024) (bd:4<=j) (ab:j<=1024) (be:1<=p) (bf:p<=1024) (a1:1<=Q) (a2:Q<=64) (bg:(sl-1)/4+1<=k) (bh:k<=4096)
  (bi:1+2*k+j+p+p+p+sl<=4096) (bI:F.length=1+2*k+j+p+p+p+sl):
  Calls prog 85 #[.agg (superC id bl sl j k p Q).toArray,.pointer (some ⟨b,0,none⟩)] w (TH S w b F O j k):=by
 obtain⟨w1,aK⟩:=qqe (w.alloc (.cells (superC id bl sl j k p Q).toArray 44));have bj:=qqh (tc id bl sl j k p Q b9 ba bb bc bd ab be bf a1 a2 bg bh bi w1);have ao:=qqh aK;have J:=Y4 aG aH aI aJ;clear aG aH aI aJ aK;go_enter func85,ntmps85
 go_wp2_with fail
 rw[<-ao.o];refine bj.o.mono ?_;rintro e Y ⟨rfl,ad⟩;have aL:Upd (fun _=>False) w w1:=by rw[ao.o];exact(uur _ w).alloc _
 have aM:Upd (fun _=>False) w Y:=aL.trans (uuo ad);have ap:w1.heap[w.heap.size]?=some (.cells (superC id bl sl j k p Q).toArray 44 (0,0)):=by rw[ao.o];exact zc w _ rfl
 obtain⟨aN,aq⟩:=qqe (w.heap.size);obtain⟨D,U⟩:=qqe (Y.alloc (.cells (layC sl j k p).toArray 73));have ae:Upd (fun _=>False) w D:=by rw[U];exact aM.alloc _
 have aO:=qqu U;have gm:=qqg U;have z3:D.heap.size=Y.heap.size+1:=by rw[U];simp
 have Z:=aO.j4 ((uuo (S:=fun _=>False) ad).j4 ap);have aP:w.heap.size<Y.heap.size:=by have:=ad.size;have:=zd ap;omega
 obtain⟨m,ar⟩:=qqe (Y.heap.size);have au:Dv (fun a=>(S a/\a<w.heap.size)\/D.heap.size<=a) D b F O []:=((J.o.1.kI (T:=fun a=>S a/\a<w.heap.size) (fun a h1 h2=>⟨h1,h2⟩)).keep ae (fun _ _ h=>h)).wide (fun a h=> .inl h);have af:Nib D:=J.o.2.2.1.keep ae (fun h=>h);have bn:=qqh (zaO au (fun a V=> .inr V) 1 k oM oM af (fun h=>by rcases h with h|h;exact J.o.2.2.2 h.1;have:=af.lt;omega));have a6:=Y3 U ar aq;rw[<-aq]at Z;rw[<-ar]at gm;have aQ:D.cell? ⟨aN,3,none⟩=some (.int .i64 (j:Int)):=za Z 3;have bp:D.cell? ⟨aN,4,none⟩=some (.int .i64 (k:Int)):=za Z 4;have bq:D.cell? ⟨m,0,none⟩=some (.int .i64 1):=za gm 0;have m1:D.cell? ⟨m,1,none⟩=some (.int .i64 (1+2*(k:Int))):=za gm 1;have q:=Y7 ae au af z3 aP Z gm;clear aL aM ae aO ap gm z3 Z aP au af U aq ar ad;go_wp2_with (first
  |(refine zk rfl _ _ _ rfl _ _ (layC sl j k p) rfl rfl rfl kR (fun v aR=>by simp at aR;rcases aR with rfl|rfl|rfl|rfl|rfl|rfl|rfl<;>rfl) ?_;refine Stop.i ?_)
  |fail)
 rw[<-a6.o.1,<-a6.o.2.1,<-a6.o.2.2];unfold Stop;go_wp2_with fail
 refine bn.out.mono ?_;rintro e bJ ⟨v,rfl,W,av,ag,X⟩;obtain⟨br,a7⟩:=qqe (nwS F O 1 k 2);rw[<-a7]at W
 try rw[<-a7]
 have G:=qqh a7;have ah:=zaP F O 1 k (fun B=>wZ F O B k) 2;rw[<-a7]at ah;obtain⟨bs,aS,ai,aw⟩:=br;dsimp only at W ah⊢;obtain⟨bt,bu,rfl⟩:=W.rd.j6;have bK:=X.j3 aQ (fun h=>by have:=q.o;have h1:=a6.o.2.2;omega);have bL:=X.j3 m1 (fun h=>by have:=q.o;have h1:=a6.o.2.1;omega);have s:=Y5 W av ag X ah;clear a7 W av ag X ah aQ bp bq m1;cases bs with
 |false=>
  go_wp2_with fail
  refine qYq (v:=.tuple #[.int .i64 0,.int .i64 0,.slice none 0 0,.int .i64 14]) jt rfl ?_;obtain⟨W,av,ag,X,-⟩:=s.o;refine⟨.slice none 0 0,[],0,0,14,rfl,Sl.nil _ _ _,From.nil _ _ _,?_,?_,.inl ⟨rfl,rfl,by rw[<-G.o]⟩⟩
  .refine ag.wide (fun a h=>⟨?_,fun g E=>by cases E⟩);rcases h.1 with h|h
   .exact h.1
   .have:=q.o;exact J.o.2.1 a oM
  .refine q.o.1.mono fE|>.new X (fun a V h=>?_)
   rcases h with h|h
   .exact h.1
   .have:=q.o;omega
 |true=>
  have bv:=qqh (zfu s.o.2.2.1 (fun a V=>⟨.inr (by have:=s.o.2.2.2.1.size;omega),fun g E e=>by have:=s.o.1.lt E;omega⟩) (1+2*k) j oM ab oM (q.o.2.2.1.keep s.o.2.2.2.1 (fun h=>by rcases h with h|h;exact J.o.2.2.2 h.1;have:=q.o.2.2.1.lt;omega)) (fun h=>by rcases h.1 with h|h;exact J.o.2.2.2 h.1;have:=q.o.2.2.1.lt;omega));go_wp2_with fail
  refine bv.out.mono ?_;rintro e bx ⟨v5,R,rfl,aj,aT,ax,f5,aU,ay⟩;obtain⟨bM,bN,rfl⟩:=ax.rd.j6;have aV:=s.o.1.keep ay (fun g E h=>h.2 g E rfl);have bz:=qqh (zaG ax.rd ai s.o.2.2.2.2.2.2 (fun r H=>(sQ F O (1+2*k) j j r (aj.mem_iff.1 H)).1) (by rw[aj.length_eq];exact qXr (wD F O _ j j) ab));have A:=Y5 aj aT aV aU ay;clear aj aT ax f5 aU ay aV;go_wp2_with fail
  refine bz.out.mono ?_;rintro e a8 ⟨bO,rfl,ak,f6,az⟩;obtain⟨bA,bB,rfl⟩:=ak.rd.j6;have bC:R.length<=1024:=by rw[A.o.1.length_eq];exact qXr (wD F O _ j j) ab
  have aA:=(YL (L:=R) (after:=ai) (N:=1099511627776) s.o.2.2.2.2.2.2 (fun r H=>(sQ F O (1+2*k) j j r (A.o.1.mem_iff.1 H)).1) R.length (qXp _)).2.2;rw[List.take_length]at aA;have aB:=zaQ R ai;obtain⟨r,H⟩:=qqe (repS R ai);rw[<-H]at ak aA aB;rw[<-H];have aW:=A.o.2.2.1.keep (uuo (S:=fun _=>False) az) (fun _ _ h=>h);have aX:Rd a8 4 (.slice bt aw.length bu) (aw.map Ent.toI).length ((aw.map Ent.toI).flatMap EI.cs):=by
   rw[WG,qzc];exact aW.rd
  have aY:Rd a8 7 (.slice bA r.d.length bB) (r.d.map natsI).length ((r.d.map natsI).flatMap dsR):=by
   rw[Uf,qzc];exact ak.rd
  have bD:=qqh (zdy aX aY (by rw[qzc];have:=s.o.2.2.2.2.2.1;omega) (by rw[qzc];omega)
   (fun e bE=>by
    obtain⟨x,hx,rfl⟩:=qzr.1 bE;have:=s.o.2.2.2.2.1 x hx;unfold Ent.In at this;unfold Ar Ent.toI;dsimp only;omega)
   (fun y hy=>by
    obtain⟨x,hx,rfl⟩:=qzr.1 hy;have:=sQ F O (1+2*k) j j x (A.o.1.mem_iff.1 (aB x hx));rw[zT,zT];unfold Ar;omega))
  have am:=Y2 az H;clear bC aA aB aW aX aY ak f6 az H;go_wp2_with fail
  refine bD.out.mono ?_;rintro e aC ⟨bP,aD,c,rfl,aE,f7,aZ,an⟩;obtain⟨b0,b1,rfl⟩:=aE.rd.j6;have z5:=s.o.2.2.2.1.size;have bF:=A.o.2.2.2.2.size;have bG:=am.o.1.size;have aF:Upd (fun _=>False) bx aC:=(uuo am.o.1).trans (uuo aZ);have b2:Dv (fun a=>S a/\a<a8.heap.size) aC b F O []:=((A.o.2.2.2.1.kI (T:=fun a=>S a/\a<a8.heap.size) (fun a h V=>⟨by
    rcases h.1.1 with h|h
    .exact h.1
    .have:=q.o;exact J.o.2.1 a oM,oM⟩)).new aF)
  have b3:Upd S w aC:=by
   refine(((q.o.1.mono fE).new s.o.2.2.2.1 (fun a V h=>?_)).new A.o.2.2.2.2 (fun a V h=>?_)).trans (aF.mono fE)
   .rcases h with h|h
    .exact h.1
    .have:=q.o;omega
   .rcases h.1 with h|h
    .exact h.1
    .have:=q.o;omega
  have M:=Y4 b2 b3 aE f7;have b4:w.heap.size<=a8.heap.size:=by have:=q.o;omega
  have bH:=qqh b4;clear aE f7 aZ z5 bF bG aF b2 b3 b4;rcases an with⟨rfl,rfl,an⟩|⟨rfl,b5,b6,b7,b8⟩
  .have aa:=qqh an;clear an;go_wp2_with fail
   refine qYq (v:=.tuple #[.int .i64 0,.int .i64 0,.slice none 0 0,.int .i64 12]) jt rfl ?_;refine⟨.slice none 0 0,[],0,0,12,rfl,Sl.nil _ _ _,From.nil _ _ _,M.o.1.wide (fun a h=>⟨h.1,fun g E=>by cases E⟩),M.o.2.1,.inr ⟨by rw[<-G.o],R,A.o.1,A.o.2.1,r,by rw[<-G.o];exact am.o.2,.inl ⟨rfl,rfl,by rw[<-G.o];exact aa.o⟩⟩⟩
  .have aa:=Y4 b5 b6 b7 b8;clear b5 b6 b7 b8;go_wp2_with fail
   refine qYq (v:=.tuple #[.int .i64 (aS:Int),.int .i64 (r.g:Int),.slice b0 aD.length b1,.int .i64 0]) jt rfl ?_;refine⟨.slice b0 aD.length b1,aD,aS,r.g,0,rfl,M.o.2.2.1,M.o.2.2.2.mono bH.o,M.o.1.wide (fun a h=>⟨h.1,fun g E e=>by have:=M.o.2.2.2 g E;omega⟩),M.o.2.1,.inr ⟨by rw[<-G.o],R,A.o.1,A.o.2.1,r,by rw[<-G.o];exact am.o.2,.inr ⟨rfl,by rw[<-G.o],rfl,by rw[<-G.o];exact aa.o.2.1,aa.o.2.2.1,aa.o.2.2.2⟩⟩⟩
def tJ(own:Nat->Nat)(w:World)(ssd back:Nat)(n:CaN)(a:CaS)(e:Ending)(w':World):Prop:=
 ∃c p own' li lc lf,e=.returned (.tuple #[ptr c,.agg #[ptr li,ptr lc,ptr lf],.slice none 0 0,.int .i64 0])/\CaAt own' w' c n p a/\p.ssd=ssd/\p.back=back/\Did own own' w w'/\
  LogI w' li ssd (1+2*n.pa+n.jo) n.lo 150/\LogC w' lc ssd (1+2*n.pa+n.jo+n.lo) n.lo 154/\LogF w' lf ssd (1+2*n.pa+n.jo+n.lo+n.lo) n.lo 158/\own' li=0/\own' lc=0/\own' lf=0
structure Emp(n:CaN)(F:List Bk)(O:List (Nat×Bk))(wh sq:Nat):Prop where
 ok:n.Ok
 fl:F.length=n.size
 su:okS (curB F O 0)=true
 ns:dsS (natsI (numsS (curB F O 0)))=n.C
 nw:nwS F O 1 n.pa 2=(true,wh,sq,[])
 js:scanTo F O (1+2*n.pa) n.jo n.jo=[]
 wh1:wh<=1
 sq1:sq+1<1099511627776
 zs:∀j,j<n.lo+n.lo+n.lo->curB F O (1+2*n.pa+n.jo+j)=zB
 o5:O.length<=50000
theorem Rv{L:List EI}(h:Lists (fun _=>none) L):L=[]:=by
 cases L with
 |nil=>rfl
 |cons e L=>have:=(h.2 e).1 qzp;cases this
theorem Ul{p:Nat}{cs:Array Value}{a:List Value}{t:TypeId}(h:w.heap[p]?=some (.cells cs t (0,0)))(k:cs.size=a.length):(w.setCells p 0 a).heap[p]?=some (.cells a.toArray t (0,0)):=by
 obtain⟨q,h2,A,s⟩:=zy a 0 w p _ t (0,0) h;rw[h2];have:q=a.toArray:=by
  apply qxd
  intro j;have e:a.toArray[j]?=a[j]?:=oe;rw[s j,e,k];by_cases D:j<a.length
  .rw [if_pos ⟨oM,oM,oM⟩];rfl
  .rw [if_neg oM,qxf oM,qyl oM]
 rw[this]
def Bx(own:Nat->Nat)(w:World)(m:Nat)(c:Value)(l:List Value):Prop:=
 (w.heap[m+1+1+1]?=some (.cells #[c] 98 (0,0))/\own (m+1+1+1)=0)/\(w.heap[m+1+1+1+1]?=some (.cells l.toArray 103 (0,0))/\own (m+1+1+1+1)=0)/\
  (w.heap[m+1+1+1+1+1]?=some (.cells #[.slice none 0 0] 104 (0,0))/\own (m+1+1+1+1+1)=0)
theorem Bx.did{m:Nat}{c:Value}{l:List Value}(h:Bx own w m c l)(d:Did own own' w w'):Bx own' w' m c l:=
 ⟨d.zero h.1.1 h.1.2,d.zero h.2.1.1 h.2.1.2,d.zero h.2.2.1 h.2.2.2⟩
def Lg3(own:Nat->Nat)(w:World)(n:CaN)(d li lc lf:Nat):Prop:=
 (LogI w li d (1+2*n.pa+n.jo) n.lo 150/\LogC w lc d (1+2*n.pa+n.jo+n.lo) n.lo 154/\LogF w lf d (1+2*n.pa+n.jo+n.lo+n.lo) n.lo 158)/\own li=0/\own lc=0/\own lf=0
theorem Lg3.did{d j k p:Nat}(a:Lg3 own w n d j k p)(g:Did own own' w w'):Lg3 own' w' n d j k p:=
 ⟨⟨a.1.1.keep g.upd (fun h=>h.1 a.2.1),a.1.2.1.keep g.upd (fun h=>h.1 a.2.2.1),a.1.2.2.keep g.upd (fun h=>h.1 a.2.2.2)⟩,(g.old _ a.1.1.lt).trans a.2.1,(g.old _ a.1.2.1.lt).trans a.2.2.1,(g.old _ a.1.2.2.lt).trans a.2.2.2⟩
theorem Lg3.aside{d h j k:Nat}(a:Lg3 own w n d h j k)(hu:Upd (fun p=>p=b) w w')(h1:h≠b)(h2:j≠b)(q:k≠b):Lg3 own w' n d h j k:=
 ⟨⟨a.1.1.keep hu h1,a.1.2.1.keep hu h2,a.1.2.2.keep hu q⟩,a.2⟩
def zfw(own:Nat->Nat)(w:World)(ssd back m:Nat)(n:CaN)(F:List Bk)(O:List (Nat×Bk))(G:List Bk)(Q:List (Nat×Bk))(a:CaS)(Fx:Nat->Option Obj):Nat->World->Prop
 |0=>fun W=>∃own',Dvs own' W ssd back F O G Q []/\Did own own' w W/\Kps own' W Fx/\Bx own' W m (.pointer none) [.pointer none,.pointer none,.pointer none]
 |1=>fun W=>∃own' c p,CaAt own' W c n p a/\(p.ssd=ssd/\p.back=back)/\Did own own' w W/\Kps own' W Fx/\Bx own' W m (ptr c) [.pointer none,.pointer none,.pointer none]
 |2=>fun W=>∃own' c p li lc lf,CaAt own' W c n p a/\(p.ssd=ssd/\p.back=back)/\Did own own' w W/\Kps own' W Fx/\Bx own' W m (ptr c) [ptr li,ptr lc,ptr lf]/\Lg3 own' W n ssd li lc lf
 |3=>fun W=>∃own' c p li lc lf,CaAt own' W c n p a/\(p.ssd=ssd/\p.back=back)/\Did own own' w W/\Kps own' W Fx/\Bx own' W m (ptr c) [ptr li,ptr lc,ptr lf]/\Lg3 own' W n ssd li lc lf
 |_=>fun W=>∃own' c p li lc lf,CaAt own' W c n p (a.ckpt n).1/\(p.ssd=ssd/\p.back=back)/\Did own own' w W/\Kps own' W Fx/\Bx own' W m (ptr c) [ptr li,ptr lc,ptr lf]/\Lg3 own' W n ssd li lc lf
theorem uG{P:Program}{j:Func}{k p r s:Tmp}{h:TypeId}(q:j.results= #[.tmp k,.cell p h,.tmp r,.tmp s])(a:Array Value)(w:World)(b o:Nat)(cs:List Value)(d:TypeDesc)
  (A:a.getD p undef=.pointer (some ⟨b,o,none⟩)) (D:w.rangeAt b o cs) (hu:P.underlying h=some d) (E:d.isRow=true) (G:(P.info? h).map (·.size)=some cs.length):
  (results j a).run P w=.ok (.tuple #[a.getD k undef,.agg cs.toArray,a.getD r undef,a.getD s undef]) w:=by
 have H:a[p]?.getD undef=.pointer (some ⟨b,o,none⟩):=by simpa using A
 simp[results,q,H,asAddr,run_loadVar_mid w b o h cs d D hu E G,Result.andThen]
def WL(s8 q m0 m:Nat):Array Value:= #[.func (.func 88) #[] #[ptr s8,ptr q,ptr (q+1),ptr m0,ptr (m0+1),ptr (m0+1+1),ptr (m+1+1+1)],.func (.func 90) #[] #[ptr (m+1+1+1),ptr (m+1+1+1+1)],
 .func (.func 92) #[] #[ptr (m+1+1+1+1),ptr (m+1+1+1+1+1)],.func (.func 94) #[] #[ptr (m+1+1+1)]]
def zfx(bad:Prop)(own:Nat->Nat)(w:World)(ssd back:Nat)(F:List Bk)(O:List (Nat×Bk))(G:List Bk)(Q:List (Nat×Bk))(Fx:Nat->Option Obj)(c:Int)(W:World):Prop:=
 bad/\c=12/\∃o,Dvs o W ssd back F O G Q []/\Did own o w W/\Kps o W Fx
theorem Et{bad:Prop}{W:World}{ssd back g m m0 s8 q:Nat}{G:List Bk}{Q:List (Nat×Bk)}{wh sq:Nat}{Fx:Nat->Option Obj}{ao:Option Addr}{ln cap:Nat}{a:CaS}(au:sq<1099511627776)(av:F.length=n.size)(aw:∀H,H<n.lo+n.lo+n.lo->curB F O (1+2*n.pa+n.jo+H)=zB\/bad/\sealB (curB F O (1+2*n.pa+n.jo+H))≠curB F O (1+2*n.pa+n.jo+H))
  (L:a.dF=F/\a.dO=O/\a.dP=[]) (af:a.bF=G/\a.bO=Q/\a.bP=[]) (ax:(a.ckpt n).2=0) (ay:∀k v,a.sums k=some v->v<=4294967295) (az:O.length<=50000)
  (aA:∀o W,Dvs o W ssd back F O G Q []->Did own o w W->Kps o W Fx->Calls prog 89 #[.agg n.C.toArray,ptr ssd,ptr back,.int .i64 (wh:Int),.int .i64 ((sq+1:Nat):Int),.slice ao ln cap] W (YH o W ssd back n a)) (aX:w.heap.size<=m)
  (ad:Dvs own' W ssd back F O G Q []) (M:Did own own' w W) (s:Kps own' W Fx) (A:Bx own' W m (.pointer none) [.pointer none,.pointer none,.pointer none])
  (aB:Fx g=some (.cells (WL s8 q m0 m) 93 (0,0))) (aC:Fx s8=some (.cells n.C.toArray 44 (0,0))) (aD:Fx q=some (.cells #[ptr ssd] 38 (0,0))) (aE:Fx (q+1)=some (.cells #[ptr back] 38 (0,0)))
  (aF:Fx m0=some (.cells #[.int .i64 (wh:Int)] 3 (0,0))) (aG:Fx (m0+1)=some (.cells #[.int .i64 (sq:Int)] 3 (0,0))) (aH:Fx (m0+1+1)=some (.cells #[.slice ao ln cap] 146 (0,0)))
  (aI:Fx (m+1+1+1)=none) (f14:Fx (m+1+1+1+1)=none) (f15:Fx (m+1+1+1+1+1)=none):
  Calls prog 53 #[.slice (some ⟨g,0,none⟩) 4 4] W (se (zfx bad own w ssd back F O G Q Fx) (zfw own w ssd back m n F O G Q a Fx 4)):=by
 refine zeM (g:=g) (n:=4) oM
  (fun k=>[88,90,92,94].getD k 0) (fun _=> #[])
  (fun k=>[#[ptr s8,ptr q,ptr (q+1),ptr m0,ptr (m0+1),ptr (m0+1+1),ptr (m+1+1+1)],#[ptr (m+1+1+1),ptr (m+1+1+1+1)],#[ptr (m+1+1+1+1),ptr (m+1+1+1+1+1)],#[ptr (m+1+1+1)]].getD k #[])
  (zfw own w ssd back m n F O G Q a Fx) (zfx bad own w ssd back F O G Q Fx) ?_ ?_ ?_ ⟨own',ad,M,s,A⟩
 .intro k s W U;have aJ:∃own',Kps own' W Fx:=by
   rcases(show k=0\/k=1\/k=2\/k=3 by omega)with rfl|rfl|rfl|rfl
   .obtain ⟨o,-,-,h,-⟩:=U;exact⟨o,h⟩
   .obtain ⟨o,c,S,-,-,-,h,-⟩:=U;exact⟨o,h⟩
   .obtain ⟨o,c,S,-,-,-,-,-,-,h,-⟩:=U;exact⟨o,h⟩
   .obtain ⟨o,c,S,-,-,-,-,-,-,h,-⟩:=U;exact⟨o,h⟩
  obtain⟨o,h⟩:=aJ;rw[za (h _ _ aB).1];rcases(show k=0\/k=1\/k=2\/k=3 by omega)with rfl|rfl|rfl|rfl<;>rfl
 .intro k s aY W;rcases(show k=0\/k=1\/k=2\/k=3 by omega)with rfl|rfl|rfl|rfl<;>rfl
 .intro k s W U;have aK:∀(x:Option Addr) (k:IntKind) (y:Int),(#[Value.pointer x]:Array Value)[0]?≠some (.int k y):=fun x k y h=>by simp at h
  rcases(show k=0\/k=1\/k=2\/k=3 by omega)with rfl|rfl|rfl|rfl
  .obtain ⟨o,aL,M,s,A⟩:=U;have h2:=zgT (own:=o) (w:=W) (n:=n) wh sq (aA o W aL M s) au (zg (s _ _ aC).1) (za (s _ _ aD).1 0) (za (s _ _ aE).1 0) (za (s _ _ aF).1 0) (za (s _ _ aG).1 0) (za (s _ _ aH).1 0) A.1.1 A.1.2;refine h2.mono fun e ag ⟨Z,c,S,ah,a6,D,aM,aN,E,a8⟩=>⟨0,Z,fun _=>?_,fun h=>absurd rfl h⟩;subst a8;have j:=A.did E;have p:=zi a6 (m+1+1+1) 0 (ptr c);refine⟨ah,c,S,D.ky p (qh D.nib D.tur j.1.1 j.1.2 (aK _)),⟨aM,aN⟩,(M.trans E).mine p oM,(s.did E).aside p (fun H e=>by subst e;exact aI),⟨xo j.1.1,j.1.2⟩,⟨(p.block _ (zd j.2.1.1) oM).trans j.2.1.1,j.2.1.2⟩,⟨(p.block _ (zd j.2.2.1) oM).trans j.2.2.1,j.2.2.2⟩⟩
  .obtain ⟨o,c,S,D,T,M,s,A⟩:=U;have aO:=zgU D (za A.1.1 0) A.2.1.1;refine aO.mono fun e ag ⟨Z,V,X,Y,a6,ak,am,an,ai,aa,a8⟩=>⟨0,Z,fun _=>?_,fun h=>absurd rfl h⟩;subst a8;rw[T.1]at ak am an;have E:=D.ko aa;have j:=A.did E;have N:=D.new aa;have p:=zn a6 (m+1+1+1+1) 0 [ptr V,ptr X,ptr Y];have aZ:=zd A.2.1.1;have J:Lg3 o a6 n ssd V X Y:=⟨⟨ak,am,an⟩,D.far _ ai.1,D.far _ ai.2.1,D.far _ ai.2.2⟩
   refine⟨o,c,S,V,X,Y,N.ky p (qh N.nib N.tur j.2.1.1 j.2.1.2 (fun k y h=>by simp at h)),T,(M.trans E).mine p oM,(s.did E).aside p (fun H e=>by subst e;exact f14),⟨⟨(p.block _ (zd j.1.1) oM).trans j.1.1,j.1.2⟩,⟨Ul j.2.1.1 rfl,j.2.1.2⟩,⟨(p.block _ (zd j.2.2.1) oM).trans j.2.2.1,j.2.2.2⟩⟩,J.aside p oM oM oM⟩
  .obtain ⟨o,c,S,V,X,Y,D,T,M,s,A,J⟩:=U;have aP:LgsY bad (fun H=>o H=2\/W.heap.size<=H) W V X Y ssd (1+2*n.pa+n.jo) n.lo F O:={
    i:=J.1.1
    c:=J.1.2.1
    f:=J.1.2.2
    dv:=by have:=D.kP;rw[T.1,L.1,L.2.1,L.2.2]at this;exact this
    fl:=by rw[av];unfold CaN.size;omega
    nS:=fun H aj=> .inr aj
    iS:=fun h=>by have:=J.1.1.lt;rcases h with h|h;rw[J.2.1]at h;cases h;omega
    cS:=fun h=>by have:=J.1.2.1.lt;rcases h with h|h;rw[J.2.2.1]at h;cases h;omega
    fS:=fun h=>by have:=J.1.2.2.lt;rcases h with h|h;rw[J.2.2.2]at h;cases h;omega
    nib:=D.nib
    nibS:=fun h=>by have:=D.nib.lt;rcases h with h|h;rw[D.on]at h;cases h;omega
    zs:=fun H aj=>aw H aj}
   have aQ:=zfs aP A.2.1.1 A.2.2.1 (fun h=>by have:=zd A.2.2.1;rcases h with h|h;rw[A.2.2.2]at h;cases h;omega);refine aQ.mono fun e ag ⟨aR,ap,Z,a6,aS,aa,a8⟩=>?_;subst a8;have N:=D.kL (F:=F) (O:=O) (P:=[]) aa (by rw[T.1];exact aS) (by rw[L.1]);have aT:({a with dF:=F,dO:=O,dP:=[]}:CaS)=a:=by rw[<-L.1,<-L.2.1,<-L.2.2]
   rw[aT]at N;have E:=D.did2 aa;have j:=A.did E;have ae:=J.did E;have p:=zi a6 (m+1+1+1+1+1) 0 (.slice none 0 0);have aq:=qh N.nib N.tur j.2.2.1 j.2.2.2 (fun k y h=>by simp at h);have ln:∀{l:Nat} {v:Array Value} {t:TypeId},a6.heap[l]?=some (.cells v t (0,0))->(∃x,v[0]?=some (.pointer x))->l≠m+1+1+1+1+1:=by
    rintro l v t h ⟨x,hx⟩ e;rw[e,j.2.2.1]at h;cases h;simp at hx
   have a7:=N.ky p aq;have aU:=(M.trans E).mine p oM;have aV:=(s.did E).aside p (fun H e=>by subst e;exact f15);refine⟨aR,Z,fun _=>?_,fun ad=>⟨(ap.resolve_left ad).1,(ap.resolve_left ad).2,_,⟨?_,?_,a7.far,a7.nib,a7.tur,a7.on,a7.ot⟩,aU,aV⟩⟩
   .refine ⟨_,c,S,V,X,Y,N.ky p aq,T,(M.trans E).mine p oM,(s.did E).aside p (fun H e=>by subst e;exact f15),⟨⟨(p.block _ (zd j.1.1) oM).trans j.1.1,j.1.2⟩,⟨(p.block _ (zd j.2.1.1) oM).trans j.2.1.1,j.2.1.2⟩,⟨xo j.2.2.1,j.2.2.2⟩⟩,ae.aside p (ln ae.1.1.str ⟨_,rfl⟩) (ln ae.1.2.1.str ⟨_,rfl⟩) (ln ae.1.2.2.str ⟨_,rfl⟩)⟩
   .have ab:=a7.ssd;rw[T.1,L.1,L.2.1,L.2.2]at ab;exact ab
   .have ab:=a7.back;rw[T.2,af.1,af.2.1,af.2.2]at ab;exact ab
  .obtain ⟨o,c,S,V,X,Y,D,T,M,s,A,J⟩:=U;have ar:=YM D ay (by rw[L.2.1];exact az);rw[ax]at ar;have aW:=zgV ar (za A.1.1 0);refine aW.mono fun e ag ⟨Z,ah,N,E⟩=>⟨0,Z,fun _=>?_,fun h=>absurd rfl h⟩;exact⟨ah,c,S,V,X,Y,N,T,M.trans E,s.did E,A.did E,J.did E⟩
end
theorem Eu{l:List Bk}{s:Nat}{x:Bk}(h:l[s]?=some x):l.getD s zB=x:=by rw[qyg,h];rfl
theorem WM(k:List Bk):∀j a,(flushF k (zW j))[a]?=if 1<=a/\a<=j/\a<k.length then some zB else k[a]?
 |0,a=>by rw[if_neg oM];rfl
 |j+1,a=>by
  rw[Tn,xS,qyp,WM k j a,zI];by_cases h:j+1=a
  .subst h;rw[if_pos rfl];by_cases p:j+1<k.length
   .rw [if_pos p,if_pos oM]
   .rw [if_neg p,if_neg oM,qyl oM]
  .rw [if_neg h];by_cases h1:1<=a/\a<=j/\a<k.length
   .rw [if_pos h1,if_pos oM]
   .rw [if_neg h1,if_neg oM]
def zgY:Bk:=(pagesB 0 []).getD 0 zB
theorem TI(i:Nat)(h:1<=i):(pagesB 0 []).getD i zB=zB:=by
 rw[qyg,qyl (by rw[pagesB,xW];exact h)];rfl
theorem Um(E:n.Ok)(j:F.length=n.size)(s:Nat)(k:s<n.size):
  curB (fmtF n F O) [] s=if s=0 then n.sec else if s=1 then zgY else if s<n.s0 then zB else curB F O s:=by
 have H:=n.s0_size;have J:1<=n.pa:=by have:=E.p1;omega
 have L:1+2*n.pa<=n.s0:=by unfold CaN.s0;omega
 have h1:(fmt1 F O)=(flushF F O).set 0 zB:=xS _ _ _;have G:=tH F O;have e:(fmtF n F O)[s]?=if 0=s then(if s<n.size then some n.sec else none)else if 1<=s/\s<1+n.pa/\s<n.size then some ((pagesB 0 []).getD (s-1) zB)else if 1<=s/\s<=n.s0-1/\s<n.size then some zB else(fmt1 F O)[s]?:=by
  show(flushF (Wz n F O) [(0,n.sec)])[s]?=_;rw[show flushF (Wz n F O) [(0,n.sec)]=(Wz n F O).set 0 n.sec from rfl,qyp,sM,j];unfold Wz;rw[rm,ZW,zI,WM,G,j];by_cases a:0=s
  .subst a;rfl
  .rw [if_neg a,if_neg a]
 show(flushF (fmtF n F O) []).getD s zB=_;rw[show flushF (fmtF n F O) []=fmtF n F O from rfl];refine Eu ?_;rw[e];by_cases a:s=0
 .subst a;rw[if_pos rfl,if_pos k,if_pos rfl]
 rw[if_neg (fun e=>a e.symm),if_neg a];by_cases p:s=1
 .subst p;rw[if_pos oM,if_pos rfl];rfl
 rw[if_neg p];by_cases q:1<=s/\s<1+n.pa/\s<n.size
 .rw [if_pos q,TI _ oM,if_pos oM]
 rw[if_neg q];by_cases A:s<n.s0
 .rw [if_pos A,if_pos oM]
 .rw [if_neg A,if_neg oM,h1,qyp,if_neg (fun e=>a e.symm)];have D:s<(flushF F O).length:=by rw[zI,j];exact k
  rw[qyk D]
  congr 1
  exact(Eu (qyk D)).symm
theorem Un{xs:List Int}(hx:xs.length=7)(h:mayS xs=true):okS (sectS xs)=true/\natsI (numsS (sectS xs))=xs:=by
 obtain⟨j,p⟩:=ZD hx h;obtain⟨q,s⟩:=ZI (k:=1) de (sz:=szS) (by rw[hx];rfl) j p (mayS (natsI (numsS (sectS xs))));have a:natsI (numsS (sectS xs))=xs:=s;refine⟨?_,a⟩;unfold okS;rw[show okGet (sectS xs) 1 szS (mayS (natsI (numsS (sectS xs))))=mayS (natsI (numsS (sectS xs)))from q,a];exact h
theorem Ev:okR zB=false:=kR
theorem WN{l:List Bk}(h:l.getD 0 zB=zB):readOk l=false:=by unfold readOk;rw[h,JI];rfl
theorem ZY{F:List Bk}{O:List (Nat×Bk)}{base n:Nat}:∀{k:Nat},(∀i,i<k->curB F O (base+i)=zB)->scanTo F O base n k=[]
 |0,_=>rfl
 |k+1,h=>by
  rw[scanTo,ZY (fun i a=>h i oM),h k oM];unfold scL JR;rw[Ev];rfl
theorem zaX(a:n.Ok)(G:mayS n.I=true)(k:F.length=n.size):Emp n (fmtF n F O) [] 0 0:=by
 have N:=n.s0_size;have H:1<=n.pa:=by have:=a.p1;omega
 have hsl:=a.s1;have q:=Um (O:=O) a k 0 oM;rw[if_pos rfl]at q;have D:=Un (xs:=n.I) rfl G;have p:∀j,2<=j->j<n.s0->curB (fmtF n F O) [] j=zB:=fun j h1 h2=>by rw[Um a k j oM,if_neg oM,if_neg oM,if_pos h2]
 have Q:n.s0=1+2*n.pa+n.jo+n.lo+n.lo+n.lo:=rfl;have s:=VW (seq:=0) (E:=[]) de (fun x hx=>by cases hx) de (l:=secsOf (fmtF n F O) [] 1 n.pa) (by rw[wZ];exact H) (fun i A=>by
  rw[wZ]at A;rw[TE _ _ _ _ _ A];by_cases J:i=0
  .subst J;rw[Um a k 1 oM,if_neg oM,if_pos rfl];rfl
  .rw [p _ oM oM,TI _ oM])
 have L:readOk (secsOf (fmtF n F O) [] (1+1*n.pa) n.pa)=false:=WN (by rw[TE _ _ _ _ _ oM,p _ oM oM]);refine⟨a,(WA n F O).trans k,?_,?_,?_,ZY (fun i A=>p _ oM oM),oM,de,fun S T=>p _ oM oM,qXz _⟩
 .rw [q];exact D.1
 .rw [q,show natsI (numsS n.sec)=n.I from D.2];rfl
 .have M:nwS (fmtF n F O) [] 1 n.pa 1=(true,0,0,[]):=by
   rw[nwS];have e:(1+0*n.pa)=1:=oM;rw[e,s.1,s.2.1,s.2.2];rfl
  rw[nwS,L,M];rfl
def zgZ(own:Nat->Nat)(w:World)(ssd back:Nat)(F:List Bk)(O:List (Nat×Bk))(G:List Bk)(Q:List (Nat×Bk))(P:List Int)(cd:Int)(e:Ending)(w':World):Prop:=
 e=.returned (.tuple #[.pointer none,.agg #[.pointer none,.pointer none,.pointer none],.slice none 0 0,.int .i64 cd])/\∃own',Dvs own' w' ssd back F O G Q P/\Did own own' w w'
theorem Zn:∀w:World,(Instr.build 103 #[]).run prog w=.ok (.agg #[.pointer none,.pointer none,.pointer none]) w:=by
 intro w;kernel_rfl
end Go.Proofs.YtpejdgiccaijfaaGreatDoor
