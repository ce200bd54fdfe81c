/- A device: Read -/
import Derived.Test.YtbnpkobbnjihjaaGreatDoorG01
import Derived.Laws.EntriesVeiled
set_option maxRecDepth 100000
set_option maxHeartbeats 1000000
namespace Go.Proofs.YtbnpkobbnjihjaaGreatDoor
open Go Go.RowKit Tryz
variable{w w':World}{g i s o k gl n cl h c:Nat}{F:List Bk}{O:List (Nat×Bk)}{b:Bk}{S:Nat->Prop}{v:Value}{B:List (Int×Int)}
def curB(F:List Bk)(O:List (Nat×Bk))(s:Nat):Bk:=(flushF F O).getD s zB
theorem qM(F:List Bk)(O j:List (Nat×Bk)):flushF F (O++j)=flushF (flushF F O) j:=by simp[flushF]
theorem YU(h:∀j∈O,j.1≠s):(flushF F O)[s]?=F[s]?:=by
 induction O generalizing F with
 |nil=>rfl
 |cons j O p=>
  have:=p (F:=F.set j.1 j.2) (fun q A=>h q (by simp[A]));simp only[flushF,List.foldl_cons]at this⊢;rw[this,List.getElem?_set_ne (h j oe)]
theorem sM(h:∀p∈O.drop k,p.1≠s):curB F O s=curB F (O.take k) s:=by
 unfold curB;have:flushF F O=flushF (flushF F (O.take k)) (O.drop k):=by rw[<-qM,qXi]
 rw[this,qyf,YU h,<-qyf]
theorem RS(j:k<O.length)(p:s<F.length)(q:O[k].1=s)(h:∀A∈O.drop (k+1),A.1≠s):curB F O s=O[k].2:=by
 rw[sM h];unfold curB;rw[tU j,q,qyf,List.getElem?_set_self (by rw[zM];exact p)];rfl
theorem TI(j:s<F.length)(h:∀p∈O,p.1≠s):curB F O s=F[s]:=by
 rw[sM (k:=0) (by simpa using h)];simp[curB,flushF,j]
theorem uz{P:List Int}(h:DvGood F O P)(s:Nat):(curB F O s).length=64:=by
 unfold curB;have:∀(O:List (Nat×Bk)) (F:List Bk),All64 F->(∀j∈O,j.2.length=64)->All64 (flushF F O):=by
  intro O
  induction O with
  |nil=>intro F h _;exact h
  |cons j O A=>intro F D p;exact A _ (D.set j.1 (p j oe)) (fun E G=>p E (by simp[G]))
 have h2:=this O F h.f64 (fun j H=>(h.o64 j H).1);by_cases q:s<(flushF F O).length
 .rw [qyf,qyj q];exact h2 _ (qyu q)
 .rw [qyf,qyk oM];exact zG
theorem zcn(w:World):Calls prog 170 #[] w fun e w'=>e=.returned (.tuple #[])/\w'=w:=by
 go_enter func170,ntmps170
 go_wp2
 go_end0
 exact⟨rfl,rfl⟩
theorem zm(x:Bk)(hx:x.length=64):(bkC x).toArray.size=64:=by simp[zn,hx]
def RT(S:Nat->Prop)(w:World)(b:Nat)(F:List Bk)(O:List (Nat×Bk))(P:List Int)(s:Int)(e:Ending)(w':World):Prop:=
 (hasC F.length s≠0/\e=.returned (.tuple #[bkV zB,.int .i64 (hasC F.length s)])/\Dv S w' b F O P/\Upd S w w')\/
 (hasC F.length s=0/\fate P=1/\e=.returned (.tuple #[bkV zB,.int .i64 19])/\Dv S w' b F O P.tail/\Upd S w w')\/
 (hasC F.length s=0/\fate P≠1/\e=.returned (.tuple #[bkV (curB F O s.toNat),.int .i64 0])/\Dv S w' b F O P.tail/\Upd S w w')
theorem zI:(prog.info? 54).map (·.size)=some 64:=zv zB zG
theorem zeQ{b:Nat}{P:List Int}(h:Dv S w b F O P)(ah:∀j,w.heap.size<=j->S j)(s:Int):
  Calls prog 100 #[.pointer (some ⟨b,0,none⟩),.int .i64 s] w (RT S w b F O P s):=by
 have ad:=Y2 h ah;clear h ah;go_enter func100,ntmps100
 go_wp2
 go_step3
 go_wp2_with fail
 show Calls _ _ _ (w.alloc (.cells (bkC zB).toArray 54)) _;have Q:Upd (fun _=>False) w (w.alloc (.cells (bkC zB).toArray 54)):=(uur _ w).alloc _;have T:(w.alloc (.cells (bkC zB).toArray 54)).heap[w.heap.size]?=some (.cells (bkC zB).toArray 54):=zc _ _ rfl;have A:(w.alloc (.cells (bkC zB).toArray 54)).heap.size=w.heap.size+1:=oe;generalize w.alloc (.cells (bkC zB).toArray 54)=w1 at*;obtain⟨au,ah⟩:=ad.o;obtain⟨q,D⟩:=au.sb;have V:Dv (fun j=>(S j/\j<w.heap.size)\/w.heap.size+1<=j) w1 b F O P:=(au.kw (fun j U av=> .inl ⟨U,av⟩)).keep Q (fun _ _ h=>h);have p:∀j,((S j/\j<w.heap.size)\/w.heap.size+1<=j)->S j:=by
  rintro j (⟨h,-⟩|h)
  .exact h
  .exact ah j oM
 have W:=Y7 V Q T A p q D;clear V Q T A p q D au ah;refine(zeO W.o.1 s).mono ?_;rintro e aw ⟨rfl,rfl⟩;by_cases Y:hasC F.length s=0
 .have Z:=qqh Y;rw[Y];clear Y;go_wp2_with fail
  refine(RM W.o.1 19 170 #[] (fun aC=>Dv (fun j=>(S j/\j<w.heap.size)\/w.heap.size+1<=j) aC b F O P.tail/\Upd (fun j=>j=b) aw aC) (fun _ _=>rfl) ?_).mono ?_
  .intro aD w1 V Q;refine(zcn w1).mono ?_;rintro e w' ⟨rfl,rfl⟩;exact⟨rfl,V,Q⟩
  .obtain ⟨V,Q,T,A,p,q,D⟩:=W.o;rintro e E ax;have ae:Hid (Dv (fun j=>(S j/\j<w.heap.size)\/w.heap.size+1<=j) E b F O P.tail/\Upd (fun j=>j=b) aw E):=by
    rcases ax with⟨-,-,a,b⟩|⟨-,-,a,b⟩|⟨-,-,-,a,b⟩<;>exact⟨a,b⟩
   have a6:E.there w.heap.size 0 64:=fun j U=>by
    have aE:=(ae.o.2.block w.heap.size oM oM).trans T;rw[za aE,zg aE];exact⟨by rw[qXy,qxe (by simp[zn,zG];omega)];rfl,rfl⟩
   have ay:Hid (Upd S w E):=(Q.mono fE).trans (ae.o.2.mono (fun j _ e=>e▸q));have R:=ae.o.2.size;clear V Q T;have aP:(fate P=1/\e=.returned (.int .i64 19))\/(fate P≠1/\e=.returned (.int .i64 0)):=by
    rcases ax with⟨h1,rfl,-,-⟩|⟨aD,rfl,-,-⟩|⟨aD,h1,rfl,-,-⟩
    .exact .inl ⟨h1,rfl⟩
    .exact .inr ⟨oM,rfl⟩
    .exact .inr ⟨h1,rfl⟩
   clear ax;rcases aP with⟨h1,rfl⟩|⟨h1,rfl⟩
   .have ak:=qqh h1;clear h1 A p q D R;go_wp2_with (first
     |(refine qZc rfl _ _ _ rfl _ _ (bkC zB).toArray rfl rfl (by rw[zm _ zG];exact a6) (by rw[zm _ zG];exact zI) (qYo (zu _)) ?_)
     |fail)
    rw[qxq];refine qYq (zp rfl _ _ w.heap.size 0 (bkC zB) _ rfl (qYl _ _ _ _ (by rw[zn,zG];exact a6)) underlying54 rfl (zv zB zG)) rfl (.inr (.inl ⟨Z.o,ak.o,rfl,?_,?_⟩))
    .exact (ae.o.1.keep (zo _ _ _ _) (by rintro j (⟨-,h⟩|h) e<;>omega)).wide (by obtain⟨-,-,-,-,p,-⟩:=W.o;exact p)
    .exact ay.out.trans ((zo _ _ _ _).mono (fun j _ e=>e▸ad.o.2 _ (qXp _)))
   .have ak:=qqh h1;clear h1;obtain⟨n,rfl⟩:∃n:Nat,s=n:=⟨s.toNat,(tr Z.o).1.symm⟩
    have ai:=(tr Z.o).2;rw[qxs]at ai;obtain⟨b7,b8,b9,X,N⟩:=ae.o.1;obtain⟨ba,bb,bc,rfl,aQ,aR,aF,aS⟩:=X.kx ai;obtain⟨aT,aU,rfl⟩:=X.os.rd.jW;obtain⟨aV,az,af⟩:=X.c;have bd:=X.good.fl;have be:=X.good.ol;have hx:(F[n]).length=64:=X.good.f64 _ (qyu ai);have G:Upd (fun _=>False) E (E.alloc (.cells (bkC F[n]).toArray 54)):=(uur _ _).alloc _;have H:=X.new G;have K:=zc E (.cells (bkC F[n]).toArray 54) rfl;have L:=qYn a6 (.cells (bkC F[n]).toArray 54);have bf:=H.c.2.1;have aG:0<=(n:Int)/\(n:Int)<F.length:=⟨oM,oM⟩
    have aH:Hid ((bkC F[n]).length=64):=by show _=_;rw[zn,hx]
    have a7:Hid (F[n].length=64):=hx;have ag:=Y10 H N G K L R A p q D;clear X N hx aS aQ aR H G K L R A p q D a6;obtain⟨aG,bg⟩:=aG;go_wp2_with (first
     |(refine qZa rfl _ _ rfl _ _ rfl _ _ aF underlying54 rfl (zv _ a7.out) ?_)
     |(refine zk rfl _ _ _ rfl _ _ _ rfl rfl aH.out.symm (zv _ a7.out) (zu _) ?_)
     |fail)
    clear aV az af aF;generalize E.alloc (.cells (bkC F[n]).toArray 54)=a8 at*
    go_step3
    go_wp2
    go_loop [9] (fun i=>∃k:Nat,k<=O.length/\i=.int .i64 ((k:Int)-1)/\∀aa∈O.drop k,aa.1≠n) (fun i=>(intOf i+1).toNat)
    case atStart=>exact⟨O.length,qXp _,rfl,oe⟩
    case round=>
     obtain⟨k,bh,rfl,aI⟩:=hrel;have aA:Hid (∀aa∈O.drop k,aa.1≠n):=aI;clear aI;cases k with
     |zero=>
      obtain⟨H,N,G,K,L,R,A,p,q,D⟩:=ag.o;have aW:=zf K;have aX:Hid (curB F O n=F[n]):=TI ai (by have:=aA.o;simpa using this);have aJ:a8.there w.heap.size 0 (bkC F[n]).toArray.size:=by rw[zm _ a7.out];exact L
      have aj:(prog.info? 54).map (·.size)=some (bkC F[n]).toArray.size:=by rw[zm _ a7.out];exact zI
      have M:=Y2 aJ aj;clear H N G K A p q D aJ aj;simp only[Int.natCast_zero];go_wp2_with (first
       |(refine qZa rfl _ _ rfl _ _ rfl _ _ aW underlying54 rfl (zv _ a7.out) ?_)
       |(refine qZc rfl _ _ _ rfl _ _ (bkC F[n]).toArray rfl rfl M.o.1 M.o.2 (qYo (zu _)) ?_)
       |fail)
      try rw[qxq]
      refine qYq (zp rfl _ _ w.heap.size 0 (bkC F[n]) _ rfl (qYl _ _ _ _ (by rw[aH.out];exact L)) underlying54 rfl (zv _ a7.out)) rfl (.inr (.inr ⟨Z.o,ak.o,by rw[qxs,aX.out];rfl,?_,?_⟩))
      .obtain ⟨H,N,G,K,L,R,A,p,q,D⟩:=ag.o;exact(Dv.keep ⟨_,_,_,H,N⟩ (zo _ _ _ _) (by rintro j (⟨-,h⟩|h) e<;>omega)).wide p
      .obtain ⟨H,N,G,K,L,R,A,p,q,D⟩:=ag.o;exact(ay.out.trans (G.mono fE)).trans ((zo _ _ _ _).mono (fun j _ e=>e▸ad.o.2 _ (qXp _)))
     |succ k=>
      have hlt:k<O.length:=oM;have aK:((k+1:Nat):Int)-1=(k:Int):=oM;rw[aK];clear aK;obtain⟨H,N,G,K,L,R,A,p,q,D⟩:=ag.o;obtain⟨aL,aM,aY,af,aZ,b0,am⟩:=H.opRange hlt;obtain⟨rfl,rfl⟩:aT=some ⟨aL,aM,none⟩/\aU=aY:=by injection af with az _ af;exact⟨az,af⟩
      clear af;obtain⟨an,J,ao⟩:∃s x,O[k]=(s,x):=⟨_,_,rfl⟩
      have ab:J.length=64:=by have:=(H.good.o64 O[k] (qyu hlt)).1;rw[ao]at this;exact this
      rw[ao]at am;have aB:=qqh ao;clear ao;have b1:=am 0 _ rfl;have b2:a8.rangeAt aL (aM+k*65+1) (bkC J):=fun j v hv=>by
       have:=am (1+j) v ji;rw[<-qXl]at this;exact this
      rw[qXm]at b1;have bi:0<=(k:Int)/\(k:Int)<O.length:=⟨oM,oM⟩
      clear H N G R A p q D am aZ b0;by_cases ap:an=n
      .subst ap;have b3:Hid (curB F O an=J):=by
        have:=RS hlt ai (by rw[aB.o]) aA.o;rw[aB.o]at this;exact this
       obtain⟨bj,b4⟩:∃g,g=E.heap.size:=⟨_,rfl⟩
       have aq:a8.there E.heap.size 0 (bkC J).toArray.size:=by
        rw[zm _ ab];intro j U;rw[za K,zg K];exact⟨by rw[qXy,qxe (by rw[zm _ a7.out];exact U)];rfl,rfl⟩
       have aj:(prog.info? 54).map (·.size)=some (bkC J).toArray.size:=by rw[zm _ ab];exact zI
       have aN:(a8.setCells E.heap.size 0 (bkC J)).rangeAt E.heap.size 0 (bkC J):=qYl _ _ _ _ (by rw[zm _ ab]at aq;rw[zn,ab];exact aq);have aO:(a8.setCells E.heap.size 0 (bkC J)).there w.heap.size 0 (bkC J).toArray.size:=by rw[zm _ ab];exact World.there_setCells L _ _ _
       have M:=Y5 aq aj aN aO ab;clear aq aj aN aO b4 ab;go_wp2_with (first
        |(refine qZa rfl _ _ rfl _ _ rfl _ _ b2 underlying54 rfl (zv _ M.o.2.2.2.2) ?_)
        |(refine qZa rfl _ _ rfl _ _ rfl _ _ M.o.2.2.1 underlying54 rfl (zv _ M.o.2.2.2.2) ?_)
        |(refine qZc rfl _ _ _ rfl _ _ (bkC J).toArray rfl rfl M.o.1 M.o.2.1 (qYo (zu _)) ?_)
        |(refine qZc rfl _ _ _ rfl _ _ (bkC J).toArray rfl rfl M.o.2.2.2.1 M.o.2.1 (qYo (zu _)) ?_)
        |fail)
       have b5:(a8.setCells E.heap.size 0 (bkC J)).there w.heap.size 0 (bkC J).length:=by rw[zn,M.o.2.2.2.2];exact World.there_setCells L _ _ _
       refine qYq (zp rfl _ _ w.heap.size 0 (bkC J) _ rfl (qYl _ _ _ _ b5) underlying54 rfl (zv _ M.o.2.2.2.2)) rfl (.inr (.inr ⟨Z.o,ak.o,by rw[qxs,b3.out];rfl,?_,?_⟩))
       .obtain ⟨H,N,G,K,L,R,A,p,q,D⟩:=ag.o;have hv:Dv (fun j=>((S j/\j<w.heap.size)\/w.heap.size+1<=j)/\j<E.heap.size) a8 b F O P.tail:=(ae.o.1.kw (fun j U av=>⟨U,av⟩)).keep G (fun _ _ h=>h);exact((hv.keep (zo _ _ _ _) (by rintro j ⟨-,h2⟩ e;omega)).keep (zo _ _ _ _) (by rintro j ⟨⟨-,h⟩|h,h2⟩ e<;>omega)).wide (fun j U=>p j U.1)
       .obtain ⟨H,N,G,K,L,R,A,p,q,D⟩:=ag.o;exact((ay.out.trans (G.mono fE)).trans ((zo _ _ _ _).mono (fun j _ e=>e▸ad.o.2 _ oM))).trans ((zo _ _ _ _).mono (fun j _ e=>e▸ad.o.2 _ (qXp _)))
      .have bk:((an:Int)==(n:Int))=false:=by simpa using(fun e:(an:Int)=n=>ap oM)
       have b6:Hid (∀aa∈O.drop k,aa.1≠n):=by
        intro aa ar;rw[qxz hlt]at ar;rcases qzm.1 ar with rfl|ar
        .rw [aB.o];exact ap
        .exact aA.o aa ar
       clear ap;go_wp2
       go_round
       case rel=>exact⟨k,oM,rfl,b6.out⟩
       case measure=>simp[intOf]
 .have Z:=qqh Y;have hz':(hasC F.length s==0)=false:=by simpa using Y
  have bl:(hasC F.length s !=0)=true:=by simpa using Y
  obtain⟨V,Q,T,A,p,q,D⟩:=W.o;have a6:aw.there w.heap.size 0 64:=fun j U=>by
   rw[za T,zg T];exact⟨by rw[qXy,qxe (by simp[zn,zG];omega)];rfl,rfl⟩
  clear V Q T A p q D Y;go_wp2_with (first
    |(refine qZc rfl _ _ _ rfl _ _ (bkC zB).toArray rfl rfl (by rw[zm _ zG];exact a6) (by rw[zm _ zG];exact zI) (qYo (zu _)) ?_)
    |fail)
  rw[qxq];refine qYq (zp rfl _ _ w.heap.size 0 (bkC zB) _ rfl (qYl _ _ _ _ (by rw[zn,zG];exact a6)) underlying54 rfl (zv zB zG)) rfl (.inl ⟨Z.o,rfl,?_,?_⟩)
  .exact (W.o.1.keep (zo _ _ _ _) (by rintro j (⟨-,h⟩|h) e<;>omega)).wide (by obtain⟨-,-,-,-,p,-⟩:=W.o;exact p)
  .exact (W.o.2.1.mono fE).trans ((zo _ _ _ _).mono (fun j _ e=>e▸ad.o.2 _ (qXp _)))
structure Nib(w:World):Prop where
 c:∀i,i<16->w.cell? ⟨1,i,none⟩=some (.int .i64 (nibC i))
theorem Nib.lt(h:Nib w):1<w.heap.size:=(zH (h.c 0 de)).2
theorem Nib.keep(h:Nib w)(j:Upd S w w')(p:¬S 1):Nib w':=⟨fun i q=>(j.cellAt h.lt p).trans (h.c i q)⟩
theorem Nib.below(h:Nib w)(j:Below w.heap.size w w'):Nib w':=h.keep (uuo (S:=fun _=>False) j) id
theorem YV(s f:Nat)(N:s<4294967296)(Q:f<256)(p:Nib w)(D:w.cell? ⟨g,0,none⟩=some (.int .i64 (s:Int)))(E:w.frozen? ⟨g,0,none⟩=false):
  Calls prog 343 #[.int .i64 (f:Int),.pointer (some ⟨g,0,none⟩)] w fun e w'=>e=.returned (.int .i64 (stepC s f:Nat))/\
   w'.cell? ⟨g,0,none⟩=some (.int .i64 (stepC s f:Nat))/\w'.frozen? ⟨g,0,none⟩=false/\Upd (fun j=>j=g) w w':=by
 have hx:=wu s f oM oM;have R:s^^^f<4294967296:=Nat.xor_lt_two_pow (n:=32) oM oM;have G:bits .and .i64 ((s^^^f:Nat):Int) 15=(((s^^^f)&&&15:Nat):Int):=uy (s^^^f) 15 oM oM;have H:(s^^^f)&&&15<16:=Nat.and_lt_two_pow (n:=4) _ oM;have T:=p.c _ H;have J:bits .xor .i64 ((s:Int)/16) ((nibC ((s^^^f)&&&15):Nat):Int)=((s/16^^^nibC ((s^^^f)&&&15):Nat):Int):=wu (s/16) (nibC ((s^^^f)&&&15)) oM (by have:=Uv ((s^^^f)&&&15);omega);have K:Hid (stepC s f=s/16^^^nibC ((s^^^f)&&&15)):=rfl;generalize (s^^^f)&&&15=m at*;clear p;go_enter func343,ntmps343
 go_wp2
 go_region
 rw[<-K.out];have L:Hid (Upd (fun j=>j=g) w (w.setCell ⟨g,0,none⟩ (.int .i64 (stepC s f:Nat))).drew):=(zi _ _ _ _).drew;have M:(w.setCell ⟨g,0,none⟩ (.int .i64 (stepC s f:Nat))).drew.cell? ⟨g,0,none⟩=some (.int .i64 (stepC s f:Nat)):=by
  rw[qYi,World.cell?_setCell_same _ _ _ D]
 have q:(w.setCell ⟨g,0,none⟩ (.int .i64 (stepC s f:Nat))).drew.frozen? ⟨g,0,none⟩=false:=by simpa using E
 have A:=Y2 M q;clear q J hx G;generalize (w.setCell ⟨g,0,none⟩ (.int .i64 (stepC s f:Nat))).drew=U at*;go_wp2
 go_ret
 exact⟨rfl,A.o.1,A.o.2,L.out⟩
theorem YW(s:Nat):
  Calls prog 273 #[.int .i64 (s:Int)] w fun e w'=>e=.returned (.func (.func 343) #[] #[.pointer (some ⟨w.heap.size,0,none⟩)])/\w'=w.alloc (.cells #[.int .i64 (s:Int)] 3):=by
 have j:=qqf;go_enter func273,ntmps273
 go_wp2
 go_ret
 exact⟨rfl,rfl⟩
theorem qp{ao:Nat}(xs:List UInt8)(p:Nib w)(G:w.cell? ⟨gl,0,none⟩=some (.slice (some ⟨g,o,none⟩) n ao))(hx:w.rangeAt g o (bkC xs))(q:xs.length=n)(au:1<=n)(av:n<=1000):
  Calls prog 215 #[.slice (some ⟨gl,0,none⟩) 1 cl] w fun e w'=>e=.returned (.int .i64 (crcC xs:Nat))/\Below w.heap.size w w':=by
 have j:Upd (fun _=>False) w (w.alloc (.cells #[.int .i64 ((4294967295:Nat):Int)] 3)):=(uur _ w).alloc _;have A:=za (zc w (.cells #[.int .i64 ((4294967295:Nat):Int)] 3) rfl) 0;have D:=zg (zc w (.cells #[.int .i64 ((4294967295:Nat):Int)] 3) rfl) 0;have E:g<w.heap.size:=by have:=qYh w _ (hx 0 _ (by rw[qyj (by rw[zn];omega)]));exact this
 have J:gl<w.heap.size:=qYh w _ G;have L:=Y9 p G hx q j A D E J;clear p G hx q j A D E J;go_enter func215,ntmps215
 go_wp2
 go_step3
 go_wp2_with fail
 refine(YW 4294967295).mono ?_;rintro e w1 ⟨rfl,rfl⟩;go_wp2
 go_step3
 go_wp2
 generalize aa:w.alloc (.cells #[.int .i64 ((4294967295:Nat):Int)] 3)=w1 at*;have aw:Hid (w1=w.alloc (.cells #[.int .i64 ((4294967295:Nat):Int)] 3)):=aa.symm;clear aa;go_loopw[3,13] (fun T U wr=>(U=.int .i64 0/\T=.int .i64 4294967295/\wr.cell? ⟨w.heap.size,0,none⟩=some (.int .i64 4294967295)/\wr.frozen? ⟨w.heap.size,0,none⟩=false/\Upd (fun H=>H=w.heap.size) w1 wr)\/
   (U=.int .i64 1/\T=.int .i64 (sumC xs:Nat)/\Upd (fun H=>H=w.heap.size) w1 wr)) (fun _ U _=>(1-intOf U).toNat)
 case atStart=>obtain⟨p,G,hx,q,j,A,D,E,J⟩:=L.o;exact .inl ⟨rfl,rfl,A,D,uur _ _⟩
 case round=>
  obtain⟨V,rfl⟩:∃V:World,V=wr:=⟨_,rfl⟩
  rcases hrel with⟨rfl,rfl,A,D,j⟩|⟨rfl,rfl,j⟩
  .obtain ⟨p,G,hx,q,W,-,-,E,J⟩:=L.o;have X:Upd (fun H=>H=w.heap.size) w V:=(W.mono fE).trans j;have ab:=p.keep X (by have:=p.lt;omega);have ax:=X.jU G oM;have ad:=X.range hx oM;have Y:=Y7 ab ad j q E A D;clear p G hx q W E J X ab ad j A D;have ap:((n:Int)==0)=false:=by rw[qYp];omega
   go_wp2
   clear ap;go_loopw[3,22] (fun T Z wr=>∃k:Nat,k<=n/\Z=.int .i64 k/\T=.int .i64 ((sumC (xs.take k):Nat):Int)/\wr.cell? ⟨w.heap.size,0,none⟩=some (.int .i64 ((sumC (xs.take k):Nat):Int))/\wr.frozen? ⟨w.heap.size,0,none⟩=false/\Upd (fun H=>H=w.heap.size) V wr) (fun _ Z _=>n-(intOf Z).toNat)
   case atStart=>exact⟨0,qXz _,rfl,rfl,Y.o.2.2.2.2.2.1,Y.o.2.2.2.2.2.2,uur _ _⟩
   case round=>
    obtain⟨k,ay,rfl,rfl,A,D,K⟩:=hrel;obtain⟨p,hx,j,q,E,-,-⟩:=Y.o;have ae:(bkC xs).length=n:=by rw[zn,q]
    by_cases hlt:k<n
    .have af:k<xs.length:=oM;have az:wr.cell? ⟨g,o+k,none⟩=some (.int .u8 ((xs[k].toNat:Nat):Int)):=
      K.jU (hx k _ (by simp only[bkC,qym,qyj af,Option.map_some];rfl)) oM
     have M:=p.keep K (by have:=(L.o.1).lt;omega);have aA:xs[k].toNat<256:=xs[k].toNat_lt;have aB:bits .and .i64 ((xs[k].toNat:Nat):Int) 15=((xs[k].toNat&&&15:Nat):Int):=uy xs[k].toNat 15 oM oM;have aq:xs[k].toNat&&&15<16:=Nat.and_lt_two_pow (n:=4) _ oM;have hsl:=ZD (xs.take k);have ag:Hid (sumC (xs.take (k+1))=stepC (stepC (sumC (xs.take k)) (xs[k].toNat&&&15)) (xs[k].toNat/16)):=by
      show _=_;rw[qXk af,TH];rfl
     have N:=Y7 M K A D aq hsl q;clear p hx j q E A D K M ae;go_wp2_with fail
     generalize xs[k].toNat=Q at*;refine(YV (sumC (xs.take k)) (Q&&&15) hsl oM N.o.1 N.o.2.2.1 N.o.2.2.2.1).mono ?_;rintro e aC ⟨rfl,ah,ai,a6⟩;have M:=N.o.1.keep a6 (by have:=(L.o.1).lt;omega);have aj:stepC (sumC (xs.take k)) (Q&&&15)<4294967296:=qL hsl;have R:=Y5 M a6 ah ai aj;clear M a6 ah ai aj;go_wp2_with fail
     rw[show((Q:Int)/16)=((Q/16:Nat):Int)from rfl];refine(YV _ (Q/16) R.o.2.2.2.2 oM R.o.1 R.o.2.2.1 R.o.2.2.2.1).mono ?_;rintro e aD ⟨rfl,a7,ak,am⟩;rw[<-ag.out];rw[<-ag.out]at a7;have a8:=Y3 am a7 ak;clear am a7 ak;go_wp2
     go_roundw
     case rel=>exact⟨k+1,oM,by go_num,rfl,a8.o.2.1,a8.o.2.2,(N.o.2.1.trans R.o.2.1).trans a8.o.1⟩
     case measure=>simp[intOf];omega
    .obtain rfl:k=n:=oM;have ar:Hid (xs.take k=xs):=by show _=_;rw[qXj oM]
     have an:=Y2 j K;clear j K p hx q A D ae;go_wp2
     go_roundw
     case rel=>exact .inr ⟨rfl,by rw[ar.o],an.o.1.trans an.o.2⟩
     case measure=>simp[intOf]
  .have aE:bits .xor .i64 ((sumC xs:Nat):Int) 4294967295=((crcC xs:Nat):Int):=wu (sumC xs) 4294967295 (by have:=ZD xs;omega) oM;go_wp2
   try rw[qxq]
   go_ret
   obtain⟨p,G,hx,q,W,-,-,E,J⟩:=L.o;exact⟨rfl,zj (Upd.below W) j (qXp _) (fun k e=>oM)⟩
def byV(n i:Nat):Value:=.int .u8 (((UInt8.ofNat (n/256^i)).toNat:Nat):Int)
theorem zco(n k:Nat):Value.int .u8 ((n:Int)/2^(8*k)%256)=byV n k:=by
 unfold byV;have h1:(UInt8.ofNat (n/256^k)).toNat=n/256^k%256:=oe;have h2:(256:Nat)^k=2^(8*k):=by rw[Nat.pow_mul]
 rw[h1,h2,Int.natCast_emod,Int.natCast_ediv,Int.natCast_pow];rfl
theorem Ux(n size:Nat)(_hn:n<72057594037927936)(L:size<=7)(fd:Nat)(p:Array Value)(M:∀q w,(callFunc fd q).run prog w=.ok (.enter fd q) w)
  (j:Nat->World->Prop) (A:j 0 w) (D:∀i,i<size->∀w,j i w->Calls prog fd (#[byV n i]++p) w fun e w'=>e=.returned (.tuple #[])/\j (i+1) w'):
  Calls prog 165 #[.int .i64 (n:Int),.int .i64 (size:Int),.func (.func fd) #[] p] w fun e w'=>e=.returned (.tuple #[])/\j size w':=by
 have E:=Y2 A D;clear A D;go_enter func165,ntmps165
 go_wp2
 go_step3
 go_wp2
 go_step3
 go_wp2
 go_loopw[6] (fun i wr=>∃k:Nat,k<=size/\i=.int .i64 k/\j k wr) (fun i _=>size-(intOf i).toNat)
 case atStart=>exact⟨0,qXz _,rfl,E.o.1⟩
 case round=>
  obtain⟨k,N,rfl,G⟩:=hrel;have H:=qqh G;clear G;by_cases hlt:k<size
  .have Q:((k:Int)==(size:Int))=false:=by rw[qYp];omega
   go_wp2_with fail
   rw[zco];refine(E.o.2 k hlt wr H.o).mono ?_;rintro e R ⟨rfl,J⟩;have K:=qqh J;clear J;go_wp2
   go_roundw
   case rel=>exact⟨k+1,oM,by go_num,K.o⟩
   case measure=>simp[intOf];omega
  .obtain rfl:k=size:=oM;go_wp2
   try rw[Exit.noGoto_normal]
   go_end0
   exact⟨rfl,H.o⟩
theorem RU(n size left:Nat)(h1:1<=size)(h2:size<=7)(j:n<256^size)(q:size<=left)(_hl2:left<=60)(w:World):
  Calls prog 163 #[.int .i64 (n:Int),.int .i64 (size:Int),.int .i64 (left:Int)] w fun e w'=>e=.returned (.int .i64 0)/\w'=w:=by
 have p:Hid ((n:Int)/2^(8*size)=0):=by
  show _=_;have e:(256:Nat)^size=2^(8*size):=by rw[Nat.pow_mul]
  rw[e]at j;have:((n/2^(8*size):Nat):Int)=0:=by rw[Nat.div_eq_of_lt j];rfl
  rw[Int.natCast_ediv,Int.natCast_pow]at this;exact this
 have A:n<72057594037927936:=qXs j (Nat.pow_le_pow_right (n:=256) oM h2);clear j;have q1:decide ((size:Int)<1)=false:=by simp;omega
 have q2:decide ((7:Int)<(size:Int))=false:=by simp;omega
 have D:decide ((n:Int)<0)=false:=oe;have E:=p.out;go_enter func163,ntmps163
 go_wp2
 go_ret
 exact⟨rfl,rfl⟩
def padB(bs:List UInt8):Bk:=bs++List.replicate (64-bs.length) 0
theorem wX{bs:List UInt8}(h:bs.length<=64):(padB bs).length=64:=by simp[padB];omega
theorem TJ{bs:List UInt8}(h:bs.length<64)(b:UInt8):padB (bs++[b])=(padB bs).set bs.length b:=by
 unfold padB;have e:64-bs.length=(64-(bs++[b]).length)+1:=by simp;omega
 rw[e,List.replicate_succ,qXe _ _ (qXp _)];simp
theorem sO(n i:Nat):lowB n (i+1)=lowB n i++[UInt8.ofNat (n/256^i)]:=by
 induction i generalizing n with
 |zero=>simp[lowB]
 |succ i j=>
  have h1:=j (n/256);show UInt8.ofNat n::lowB (n/256) (i+1)=(UInt8.ofNat n::lowB (n/256) i)++_;rw[h1,qxy,Nat.div_div_eq_div_mul,Nat.pow_succ,Nat.mul_comm]
theorem Uy(x:Bk)(i:Nat)(b:UInt8):bkC (x.set i b)=(bkC x).set i (Go.Extern.Stop.cell b):=by simp[bkC,List.map_set]
def WrAt(w:World)(g:Nat)(bs:List UInt8):Prop:=
 bs.length<=60/\w.heap[g]?=some (.cells (bkC (padB bs)++[Value.int .i64 (bs.length:Int),Value.int .i64 0]).toArray 255 (0,0))
section
variable{w w':World}{g:Nat}{bs:List UInt8}
theorem WrAt.lt(h:WrAt w g bs):g<w.heap.size:=zd h.2
theorem WrAt.keep(h:WrAt w g bs)(j:Upd S w w')(p:¬S g):WrAt w' g bs:=⟨h.1,(j.block g h.lt p).trans h.2⟩
theorem WrAt.len(h:WrAt w g bs):(bkC (padB bs)).length=64:=by rw[zn,wX (by have:=h.1;omega)]
theorem WrAt.c64(h:WrAt w g bs):w.cell? ⟨g,64,none⟩=some (.int .i64 (bs.length:Int)):=by
 rw[za h.2,qyq,qyh oP,h.len];rfl
theorem WrAt.c65(h:WrAt w g bs):w.cell? ⟨g,65,none⟩=some (.int .i64 0):=by
 rw[za h.2,qyq,qyh oP,h.len];rfl
theorem WrAt.fz(h:WrAt w g bs)(i:Nat):w.frozen? ⟨g,i,none⟩=false:=zg h.2 i
theorem WrAt.range(h:WrAt w g bs):w.rangeAt g 0 (bkC (padB bs)):=fun q v j=>by
 have p:=(qyl.1 j).1;rw[za h.2,qXy,qyq,qyg p];exact j
theorem WrAt.some(h:WrAt w g bs)(j:i<66):∃v,w.cell? ⟨g,i,none⟩=some v:=by
 rw[za h.2,qyq];exact⟨_,qyj (by rw[qyy,h.len];exact j)⟩
theorem WrAt.push(h:WrAt w g bs)(A:bs.length<60)(b:UInt8)(j:Upd (fun _=>False) (w.setCell ⟨g,bs.length,none⟩ (Go.Extern.Stop.cell b)) w'):
  WrAt (w'.setCell ⟨g,64,none⟩ (.int .i64 ((bs++[b]).length:Int))) g (bs++[b]):=by
 refine⟨by simp;omega,?_⟩;have h1:=zh h.2 bs.length (Go.Extern.Stop.cell b);have h2:=(j.block g (zd h1) id).trans h1;have p:=zh h2 64 (.int .i64 ((bs++[b]).length:Int));rw[p]
 congr 2
 rw[qXd,qXd,List.set_append_left _ _ oP,<-Uy,<-TJ oM];have q:(bkC (padB (bs++[b]))).length=64:=by rw[zn,wX og]
 rw[qXe _ _ oM,q];rfl
end
theorem zeR{j:Nat}{bs:List UInt8}(h:WrAt w g bs)(G:bs.length<60)(b:UInt8)(H:w.cell? ⟨j,0,none⟩=some (.pointer (some ⟨g,0,none⟩)))(J:¬g=j):
  Calls prog 164 #[.int .u8 ((b.toNat:Nat):Int),.pointer (some ⟨j,0,none⟩)] w fun e w'=>e=.returned (.tuple #[])/\WrAt w' g (bs++[b])/\Upd (fun p=>p=g) w w':=by
 have c64:=h.c64;obtain⟨v0,K⟩:=h.some (i:=bs.length) oM;have L:=h.fz bs.length;have M:=h.fz 64;have q:Upd (fun p=>p=g) w ((w.setCell ⟨g,bs.length,none⟩ (.int .u8 ((b.toNat:Nat):Int))).drew.setCell ⟨g,64,none⟩ (.int .i64 ((bs.length:Int)+1))):=((zi _ _ _ _).drew).trans (zi _ _ _ _);have A:WrAt ((w.setCell ⟨g,bs.length,none⟩ (.int .u8 ((b.toNat:Nat):Int))).drew.setCell ⟨g,64,none⟩ (.int .i64 ((bs.length:Int)+1))) g (bs++[b]):=by
  have:=h.push G b ((uur (fun _=>False) _).drew);rw[qyy]at this;exact this
 have D:=Y2 A q;have E:0<=(bs.length:Int)/\(bs.length:Int)<60:=⟨oM,oM⟩
 obtain⟨E,N⟩:=E;clear h A q;go_enter func164,ntmps164
 go_wp2
 go_region
 go_wp2
 go_end0
 exact⟨rfl,D.o.1,D.o.2⟩
theorem WrAt.set65{bs:List UInt8}(h:WrAt w g bs):WrAt (w.setCell ⟨g,65,none⟩ (.int .i64 0)) g bs:=by
 refine⟨h.1,?_⟩;rw[zh h.2 65 (.int .i64 0)]
 congr 2
 rw[qXd,qXe _ _ oP,h.len];rfl
theorem sy{b j:Nat}{u:Value}(h:w.cell? ⟨g,o,none⟩=some v)(p:j≠o):(w.setCell ⟨b,j,none⟩ u).cell? ⟨g,o,none⟩=some v:=by
 rw[World.cell?_setCell_other _ _ _ _ (fun e=>p (congrArg Addr.off e)),h]
theorem RV(w:World):Calls prog 90 #[] w fun e w'=>∃g,e=.returned (.pointer (some ⟨g,0,none⟩))/\WrAt w' g []/\w.heap.size<=g/\Below w.heap.size w w':=by
 go_enter func90,ntmps90
 go_wp2
 go_ret
 refine⟨w.heap.size,rfl,⟨oe,zc w _ rfl⟩,qXp _,(qxl _ w).alloc (qXp _) _⟩
theorem AI{bs:List UInt8}(h:WrAt w g bs)(n size:Nat)(h1:1<=size)(h2:size<=7)(K:n<256^size)(V:bs.length+size<=60):
  Calls prog 91 #[.pointer (some ⟨g,0,none⟩),.int .i64 (n:Int),.int .i64 (size:Int)] w fun e w'=>e=.returned (.pointer (some ⟨g,0,none⟩))/\WrAt w' g (bs++lowB n size)/\Upd (fun p=>p=g) w w':=by
 have a8:=qqf;have A:Upd (fun _=>False) w (w.alloc (.cells #[.pointer (some ⟨g,0,none⟩)] 170)):=(uur _ _).alloc _;have q:=h.keep A id;have L:(w.alloc (.cells #[.pointer (some ⟨g,0,none⟩)] 170)).cell? ⟨w.heap.size,0,none⟩=some (.pointer (some ⟨g,0,none⟩)):=za (zc w _ rfl) 0;have c64:=q.c64;have c65:=q.c65;have W:=q.fz 65;have aa:=h.lt;have M:¬g=w.heap.size:=oM;have N:w.heap.size≠g:=oM;have H:=Y6 q A K h2 V h1;have Q:(60:Int)-bs.length=((60-bs.length:Nat):Int):=oM;have ab:IntKind.i64.wrap (60-(bs.length:Int))=((60-bs.length:Nat):Int):=by rw[Q,qxt _ oM]
 clear q A K h h1 Q;go_enter func91,ntmps91
 go_wp2
 generalize (w.alloc (.cells #[.pointer (some ⟨g,0,none⟩)] 170))=w1 at*;generalize w.heap.size=m at*
 go_region_held3 (fun j=>j.cell? ⟨m,0,none⟩=some (.pointer (some ⟨g,0,none⟩))/\j.cell? ⟨g,64,none⟩=some (.int .i64 (bs.length:Int)))
  ((go_split_ands;(simp only[qYi]at*);((repeat' constructor)<;>first|assumption|(refine zt ?_ ?_<;>assumption)|(refine sy ?_ de;assumption))))
  (first|(go_at_call 163;refine(RU n size (60-bs.length) H.o.2.2.2.2.2 H.o.2.2.2.1 H.o.2.2.1 oZ oM _).mono ?_;rintro e w' ⟨rfl,rfl⟩))
 have D:WrAt (w1.setCell ⟨g,65,none⟩ (.int .i64 0)).drew g bs:=(H.o.1.set65).keep ((uur (fun _=>False) _).drew) id;have X:Hid (Upd (fun p=>p=g) w (w1.setCell ⟨g,65,none⟩ (.int .i64 0)).drew):=(H.o.2.1.mono fE).trans ((zi _ _ _ _).drew);have Y:(w1.setCell ⟨g,65,none⟩ (.int .i64 0)).drew.cell? ⟨m,0,none⟩=some (.pointer (some ⟨g,0,none⟩)):=by
  rw[qYi];exact zt L M
 rename_i Z
 clear Z;generalize (w1.setCell ⟨g,65,none⟩ (.int .i64 0)).drew=R at*;have ad:=D.c65;have E:=Y2 D Y;clear D L c64 c65 W;go_wp2_with fail
 refine(Ux (w:=R) n size (qXs H.o.2.2.1 (Nat.pow_le_pow_right (n:=256) oM h2)) h2 164 #[.pointer (some ⟨m,0,none⟩)] (fun _ _=>rfl)
  (fun i j=>WrAt j g (bs++lowB n i)/\Upd (fun p=>p=g) R j) ⟨by simpa[lowB]using E.o.1,uur _ _⟩ ?_).mono ?_
 .intro i ae j G;refine(zeR G.1 (by rw[qyy,zY];omega) (UInt8.ofNat (n/256^i)) (G.2.jU E.o.2 N) M).mono ?_;rintro e w' ⟨rfl,a6,a7⟩;refine⟨rfl,?_,G.2.trans a7⟩;rw[sO,<-qxv];exact a6
 .rintro e af ⟨rfl,T,J⟩;have ag:=J.jU E.o.2 N;have U:=Y2 T J;clear T J;go_wp2
  go_ret
  exact⟨rfl,U.o.1,X.out.trans U.o.2⟩
theorem zeS{gb j:Nat}{x:Bk}(A:w.heap[gb]?=some (.cells (bkC x).toArray 54 (0,0)))(hx:x.length=64)(L:i<64)(b:UInt8)
  (p:w.heap[j]?=some (.cells #[.int .i64 (i:Int)] 3 (0,0))) (E:¬gb=j):
  Calls prog 230 #[.int .u8 ((b.toNat:Nat):Int),.pointer (some ⟨gb,0,none⟩),.pointer (some ⟨j,0,none⟩)] w fun e w'=>e=.returned (.tuple #[])/\
   w'.heap[gb]?=some (.cells (bkC (x.set i b)).toArray 54 (0,0))/\w'.heap[j]?=some (.cells #[.int .i64 ((i+1:Nat):Int)] 3 (0,0))/\Upd (fun q=>q=gb\/q=j) w w':=by
 have M:w.cell? ⟨j,0,none⟩=some (.int .i64 (i:Int)):=za p 0;have z0:=zg p 0;have G:∃v,w.cell? ⟨gb,i,none⟩=some v:=by
  rw[za A];exact⟨_,qxe (by rw[zm _ hx];exact L)⟩
 obtain⟨v0,G⟩:=G;have N:=zg A i;have H:Upd (fun q=>q=gb\/q=j) w ((w.setCell ⟨gb,i,none⟩ (.int .u8 ((b.toNat:Nat):Int))).setCell ⟨j,0,none⟩ (.int .i64 ((i:Int)+1))):=
  ((zi w gb i _).mono (fun _ _ h=> .inl h)).trans ((zi _ _ _ _).mono (fun _ _ h=> .inr h))
 have h1:=zh A i (.int .u8 ((b.toNat:Nat):Int));have h2:((w.setCell ⟨gb,i,none⟩ (.int .u8 ((b.toNat:Nat):Int))).setCell ⟨j,0,none⟩ (.int .i64 ((i:Int)+1))).heap[gb]?=some (.cells (bkC (x.set i b)).toArray 54 (0,0)):=by
  rw[(zi _ j 0 _).block gb (zd h1) E,h1,qXd,Uy];rfl
 have J:((w.setCell ⟨gb,i,none⟩ (.int .u8 ((b.toNat:Nat):Int))).setCell ⟨j,0,none⟩ (.int .i64 ((i:Int)+1))).heap[j]?=some (.cells #[.int .i64 ((i+1:Nat):Int)] 3 (0,0)):=
  zh (((zi w gb i (.int .u8 ((b.toNat:Nat):Int))).block j (zd p) (fun e=>E e.symm)).trans p) 0 _
 have K:0<=(i:Int)/\(i:Int)<64:=⟨oM,oM⟩
 obtain⟨K,Q⟩:=K;have D:=Y3 h2 J H;clear H h1 h2 J A p;go_enter func230,ntmps230
 go_wp2
 go_end0
 exact⟨rfl,D.o.1,D.o.2.1,D.o.2.2⟩
def xN(b:Bk)(i:Nat):Bk:=b.take 60++lowB (crcC (b.take 60)) i++b.drop (60+i)
theorem WU(h:b.length=64)(j:i<=4):(xN b i).length=64:=by simp[xN,zY,h];omega
theorem YX(b:Bk):xN b 0=b:=by simp[xN,lowB]
theorem YY(h:b.length=64):xN b 4=sealB b:=by
 unfold xN sealB;rw[List.drop_of_length_le oM,qxw]
theorem WV(h:b.length=64)(q:i<4):(xN b i).set (60+i) (UInt8.ofNat (crcC (b.take 60)/256^i))=xN b (i+1):=by
 unfold xN;have j:(b.take 60++lowB (crcC (b.take 60)) i).length=60+i:=by simp[zY,h]
 rw[qXe _ _ (by rw[j];exact qXp _),j,Nat.sub_self,sO];have p:b.drop (60+i)=b[60+i]'oM::b.drop (60+(i+1)):=qxz oM;rw[p,qXg];simp
theorem xS(w:World)(A B C D:Obj):let W:=(((w.alloc A).alloc B).alloc C).alloc D
  W.heap[w.heap.size]?=some A/\W.heap[w.heap.size+1]?=some B/\W.heap[w.heap.size+1+1]?=some C/\W.heap[w.heap.size+1+1+1]?=some D/\W.heap.size=w.heap.size+4/\Upd (fun _=>False) w W:=by
 refine⟨?_,?_,?_,zc _ _ oe,oe,((((uur _ w).alloc _).alloc _).alloc _).alloc _⟩
 .rw [qxk _ _ _ jO,qxk _ _ _ jO,qxk _ _ _ oe];exact zc w _ rfl
 .rw [qxk _ _ _ jO,qxk _ _ _ oe];exact zc _ _ oe
 .rw [qxk _ _ _ oe];exact zc _ _ oe
theorem qN(b:Bk)(U:b.length=64)(V:Nib w):
  Calls prog 166 #[.agg (bkC b).toArray] w fun e w'=>e=.returned (.agg (bkC (sealB b)).toArray)/\Below w.heap.size w w':=by
 have an:=qqf;have ag:=qqh V;have p:=qqh U;clear V U;go_enter func166,ntmps166
 go_wp2_with fail
 show Calls _ _ _ ((((w.alloc (.cells (bkC b).toArray 54)).alloc (.cells (bkC zB).toArray 54)).alloc (.cells #[.int .i64 60] 3)).alloc (.cells #[.slice (some ⟨w.heap.size,0,none⟩) 60 64] 354)) _;obtain⟨G,L,M,W,ah,N⟩:=xS w (.cells (bkC b).toArray 54) (.cells (bkC zB).toArray 54) (.cells #[.int .i64 60] 3) (.cells #[.slice (some ⟨w.heap.size,0,none⟩) 60 64] 354);generalize (((w.alloc (.cells (bkC b).toArray 54)).alloc (.cells (bkC zB).toArray 54)).alloc (.cells #[.int .i64 60] 3)).alloc (.cells #[.slice (some ⟨w.heap.size,0,none⟩) 60 64] 354)=ai at*;have X:=zf G;have Y:ai.rangeAt w.heap.size 0 (bkC (b.take 60)):=fun q v H=>by
  refine X q v ?_;have hj:=(qyl.1 H).1;rw[zn,qzf]at hj;simp only[bkC,qym]at H⊢;rw[qyp,if_pos oM]at H;exact H
 refine(qp (b.take 60) (ag.o.keep N id) (za W 0) Y (by rw[qzf,p.out];rfl) oM oM).mono ?_;rintro e Z ⟨rfl,A⟩;have a6:=qqb A;have a7:=(A.block _ (zd G)).trans G;have a8:=(A.block _ (zd L)).trans L;have aa:=(A.block _ (zd M)).trans M;have D:=Y4 a7 a8 aa (N.trans a6);clear G L M W ah N X Y A a6 a7 a8 aa;have Hs:=qqh (ZE (b.take 60));obtain⟨m,ao⟩:∃m,Hid (m=w.heap.size):=⟨_,rfl⟩
 have ap:Hid (∀i,UInt8.ofNat (crcC (b.take 60)/256^i)=UInt8.ofNat (crcC (b.take 60)/256^i)):=fun _=>rfl;go_wp2_with fail
 refine(Ux (w:=Z) (crcC (b.take 60)) 4 (by have:=Hs.out;omega) oM 230 #[.pointer (some ⟨w.heap.size,0,none⟩),.pointer (some ⟨w.heap.size+1+1,0,none⟩)] (fun _ _=>rfl)
  (fun i J=>J.heap[w.heap.size]?=some (.cells (bkC (xN b i)).toArray 54 (0,0))/\J.heap[w.heap.size+1+1]?=some (.cells #[.int .i64 ((60+i:Nat):Int)] 3 (0,0))/\Upd (fun q=>q=w.heap.size\/q=w.heap.size+1+1) Z J) ⟨by rw[YX];exact D.o.1,D.o.2.2.1,uur _ _⟩ ?_).mono ?_
 .intro i aj J Q;refine(zeS Q.1 (WU p.out oM) oM (UInt8.ofNat (crcC (b.take 60)/256^i)) Q.2.1 oM).mono ?_;rintro e w' ⟨rfl,h1,h2,E⟩;rw[WV p.out aj]at h1;exact⟨rfl,h1,h2,Q.2.2.trans E⟩
 .rintro e K ⟨rfl,h1,h2,E⟩;rw[YY p.out]at h1;have hsl:=vC p.out;have ak:=zf h1;have R:=(E.block (w.heap.size+1) (zd D.o.2.1) oM).trans D.o.2.1;have T:K.there (w.heap.size+1) 0 64:=fun q hj=>by
   rw[za R,zg R];exact⟨by rw[qXy,qxe oD];rfl,rfl⟩
  have ab:K.there (w.heap.size+1) 0 (bkC (sealB b)).toArray.size:=by rw[zm _ hsl];exact T
  have ad:K.there (w.heap.size+1) 0 (bkC (sealB b)).length:=by rw[zn,hsl];exact T
  have ae:(prog.info? 54).map (·.size)=some (bkC (sealB b)).toArray.size:=by rw[zm _ hsl];exact zI
  have j:=Y5 ab ae ad hsl E;clear ab ae ad hsl E h1 h2 R T;generalize af:sealB b=sb at*;have am:=qqh af;clear af;go_wp2_with (first
   |(refine qZa rfl _ _ rfl _ _ rfl _ _ ak underlying54 rfl (zv _ j.o.2.2.2.1) ?_)
   |(refine qZc rfl _ _ _ rfl _ _ (bkC sb).toArray rfl rfl j.o.1 j.o.2.1 (qYo (zu _)) ?_)
   |fail)
  exact qYq (zq rfl _ _ (w.heap.size+1) 0 (bkC sb) _ rfl (qYl _ _ _ _ j.o.2.2.1) underlying54 rfl (zv _ j.o.2.2.2.1)) rfl
   ⟨by rw[am.out],zj (zj (Upd.below D.o.2.2.2) j.o.2.2.2.2 (qXp _) (fun k e=>oM)) (zo K (w.heap.size+1) 0 _) (qXp _) (fun k e=>oM)⟩
theorem AJ(w:World):(sizeOf 5).run prog w=.ok 1 w:=by
 have j:(prog.info? 5).map (·.size)=some 1:=kR;obtain⟨i,p,q⟩:=qYc.1 j;simp[sizeOf,typeInfo,p,q]
theorem qr(x y:Bk)(hx:x.length=64)(hy:y.length=64)(w:World):(Op.equalIn 10000 54 (.agg (bkC x).toArray) (.agg (bkC y).toArray)).run prog w=.ok (x==y) w:=
 run_equalIn_bytes (P:=prog) w 9998 54 5 64 underlying54 underlying5 AJ x y hx hy
theorem Below.range{W j:World}(p:Below W.heap.size W j){b:Nat}{cs:List Value}(h:W.rangeAt b o cs):j.rangeAt b o cs:=
 (uuo (S:=fun _=>False) p).range h id
theorem yj(h:Below w.drew.heap.size w.drew w'):Below w.heap.size w w':=⟨h.os,h.tape,h.output,h.size,h.block⟩
def sealedC(b:Bk):Int:=if sealB b=b then 0 else 13
theorem Zcg02{P:Prop}(h:P:=by
  clear E;go_enter func233,ntmps233
  go_wp2_with fail
  refine qZd (S:=fun Q=>Q.rangeAt w.heap.size 0 (bkC b)) kR oG (fun p=>?_)
  refine' qYz (i:=0) rfl kR kR kR (fun _ _ _ h=>h) (qZf oA _ _ rfl _ _ rfl _ _ (fun w h=>h) H rfl J) p _
  simp only[Act.put,qXd]
  refine' qYz (i:=2) rfl kR kR kR (fun _ _ _ h=>h) (qZf oA _ _ rfl _ _ rfl _ _ (fun w h=>h) H rfl J) p _
  simp only[Act.put];refine Wl.r 1 (fun q j=>?_);go_simp
  refine(qN b W.out V.o).mono ?_;rintro e R ⟨rfl,A⟩;refine j.o _ _ (Below.range A p) (fun G=>?_);clear j q;refine Wl.r 3 (fun q j=>?_);go_simp
  refine j.o _ _ G (fun _=>?_);clear j q;refine Wl.d ?_;have T:Hid (Below w.heap.size w R):=(Upd.below K.o).trans ((yj A).mono K.o.size);clear p G A;go_wp2
  go_ret
  exact⟨by rw[M.out];rfl,T.o⟩):P:=h
theorem WW(b:Bk)(D:b.length=64)(U:Nib w):
  Calls prog 233 #[.agg (bkC b).toArray] w fun e w'=>e=.returned (.int .i64 (sealedC b))/\Below w.heap.size w w':=by
 have L:Upd (fun _=>False) w (w.alloc (.cells (bkC b).toArray 54)):=(uur _ w).alloc _;have hr:=zf (zc w (.cells (bkC b).toArray 54) rfl);have H:=underlying54;have J:=zv b D;have Y:(bkC b).length=64:=by rw[zn,D]
 have Z:=qr (sealB b) b (vC D) D;have V:Hid (Nib (w.alloc (.cells (bkC b).toArray 54)).drew):=(U.keep L id).keep ((uur (fun _=>False) _).drew) id;have K:=qqh L;have W:=qqh D;clear U L D;by_cases E:sealB b=b
 .have M:Hid (sealedC b=0):=if_pos E;have N:(sealB b==b)=true:=by simpa using E
  have X:(!(sealB b==b))=false:=by rw[N];rfl
  exact Zcg02
 .have M:Hid (sealedC b=13):=if_neg E;have N:(sealB b==b)=false:=by simpa using E
  have X:(!(sealB b==b))=true:=by rw[N];rfl
  exact Zcg02
theorem zbV{bs:List UInt8}(h:WrAt w g bs)(K:Nib w):
  Calls prog 92 #[.pointer (some ⟨g,0,none⟩)] w fun e w'=>e=.returned (.tuple #[.agg (bkC (sealB (padB bs))).toArray,.int .i64 0])/\Below w.heap.size w w':=by
 have A:=Y2 h K;have V:=h.lt;clear h K;have j:Upd (fun _=>False) w (w.alloc (.cells (bkC zB).toArray 54)):=(uur _ w).alloc _;have q:=zc w (.cells (bkC zB).toArray 54) rfl;have h1:=A.o.1.keep j id;have c65:=A.o.1.c65;have R:=A.o.1.range;have E:Hid ((padB bs).length=64):=wX (by have:=h1.1;omega);have T:=Y3 h1 j q;clear h1 j q;go_enter func92,ntmps92
 go_wp2_with (first
  |(refine qZa rfl _ _ rfl _ _ rfl _ _ (qYj R _) underlying54 rfl (zv _ E.out) ?_)
  |fail)
 show Calls _ _ _ (w.alloc (.cells (bkC zB).toArray 54)) _;generalize (w.alloc (.cells (bkC zB).toArray 54))=w1 at*;obtain⟨h1,j,q⟩:=T.o;refine(qN (padB bs) E.out (A.o.2.keep j id)).mono ?_;rintro e D ⟨rfl,G⟩;have hsl:=vC E.out;have H:=(G.block w.heap.size (zd q)).trans q;have J:D.there w.heap.size 0 64:=fun W hj=>by
  rw[za H,zg H];exact⟨by rw[qXy,qxe oD];rfl,rfl⟩
 have L:D.there w.heap.size 0 (bkC (sealB (padB bs))).toArray.size:=by rw[zm _ hsl];exact J
 have M:D.there w.heap.size 0 (bkC (sealB (padB bs))).length:=by rw[zn,hsl];exact J
 have N:(prog.info? 54).map (·.size)=some (bkC (sealB (padB bs))).toArray.size:=by rw[zm _ hsl];exact zI
 have p:=Y6 L N M hsl G j;clear L N M hsl H J h1 j q G;generalize Q:sealB (padB bs)=sb at*;have U:=qqh Q;clear Q;go_wp2_with (first
  |(refine qZc rfl _ _ _ rfl _ _ (bkC sb).toArray rfl rfl p.o.1 p.o.2.1 (qYo (zu _)) ?_)
  |fail)
 exact qYq (zp rfl _ _ w.heap.size 0 (bkC sb) _ rfl (qYl _ _ _ _ p.o.2.2.1) underlying54 rfl (zv _ p.o.2.2.2.1)) rfl
   ⟨by rw[U.out];rfl,zj ((Upd.below p.o.2.2.2.2.2).trans (p.o.2.2.2.2.1.mono p.o.2.2.2.2.2.size)) (zo D w.heap.size 0 _) (qXp _) (fun k e=>oM)⟩
def yR(w:World)(g:Nat)(b:Bk)(at_:Nat):Prop:=
 b.length=64/\at_<=60/\w.heap[g]?=some (.cells (bkC b++[Value.int .i64 (at_:Int),Value.int .i64 0]).toArray 415 (0,0))
section
variable{w w':World}{g at_:Nat}{b:Bk}
theorem yR.lt(h:yR w g b at_):g<w.heap.size:=zd h.2.2
theorem yR.keep(h:yR w g b at_)(j:Upd S w w')(p:¬S g):yR w' g b at_:=⟨h.1,h.2.1,(j.block g h.lt p).trans h.2.2⟩
theorem yR.len(h:yR w g b at_):(bkC b).length=64:=by rw[zn,h.1]
theorem yR.c64(h:yR w g b at_):w.cell? ⟨g,64,none⟩=some (.int .i64 (at_:Int)):=by
 rw[za h.2.2,qyq,qyh oP,h.len];rfl
theorem yR.c65(h:yR w g b at_):w.cell? ⟨g,65,none⟩=some (.int .i64 0):=by
 rw[za h.2.2,qyq,qyh oP,h.len];rfl
theorem yR.fz(h:yR w g b at_)(i:Nat):w.frozen? ⟨g,i,none⟩=false:=zg h.2.2 i
theorem yR.byte(h:yR w g b at_)(j:i<b.length):w.cell? ⟨g,i,none⟩=some (.int .u8 ((b[i].toNat:Nat):Int)):=by
 rw[za h.2.2,qyq,qyg (by rw[zn];exact j)];simp only[bkC,qym,qyj j,Option.map_some];rfl
theorem yR.set65(h:yR w g b at_):yR (w.setCell ⟨g,65,none⟩ (.int .i64 0)) g b at_:=by
 refine⟨h.1,h.2.1,?_⟩;rw[zh h.2.2 65 (.int .i64 0)]
 congr 2
 rw[qXd,qXe _ _ oP,h.len];rfl
theorem yR.set64(h:yR w g b at_)(j:n<=60):yR (w.setCell ⟨g,64,none⟩ (.int .i64 (n:Int))) g b n:=by
 refine⟨h.1,j,?_⟩;rw[zh h.2.2 64 (.int .i64 (n:Int))]
 congr 2
 rw[qXd,qXe _ _ oP,h.len];rfl
end
theorem TK(l:List UInt8)(b:UInt8):numB (l++[b])=numB l|||(b.toNat<<<(8*l.length))/\numB (l++[b])=numB l+b.toNat*2^(8*l.length)/\numB l<2^(8*l.length):=by
 have hlt:∀l:List UInt8,numB l<2^(8*l.length):=by
  intro l
  induction l with
  |nil=>simp[numB]
  |cons a l j=>
   have q:=a.toNat_lt;simp only[numB,qyz];rw[show 8*(l.length+1)=8*l.length+8 by omega,Nat.pow_add];omega
 have p:numB (l++[b])=numB l+b.toNat*2^(8*l.length):=by
  induction l with
  |nil=>simp[numB]
  |cons a l j=>
   simp only[qxy,numB,qyz];rw[j,show 8*(l.length+1)=8+8*l.length by omega,Nat.pow_add];rw[show(2:Nat)^8=256 from rfl];rw[Nat.mul_add,qXl,Nat.mul_left_comm]
 refine⟨?_,p,hlt l⟩;rw[p,Nat.shiftLeft_eq,Nat.add_comm,Nat.mul_comm,Nat.two_pow_add_eq_or_of_lt (hlt l),Nat.or_comm]
theorem WX(M:Nat)(h:M<4611686018427387904):wrap64 (M:Int)=M:=by unfold wrap64;omega
theorem zcp(j c m:Nat)(D:j<281474976710656)(E:c<256)(p:2^m<=281474976710656):bits .or .i64 (j:Int) (wrap64 ((c:Int)*2^m))=((j|||c<<<m:Nat):Int):=by
 have h1:c*2^m<=255*281474976710656:=Nat.mul_le_mul oM p;have q:((c:Int)*2^m)=((c*2^m:Nat):Int):=by rw[Int.natCast_mul,Int.natCast_pow];rfl
 rw[q,<-Nat.shiftLeft_eq];rw[<-Nat.shiftLeft_eq]at h1;generalize c<<<m=A at*;rw[WX A oM];exact YS _ _ oM oM
theorem zbW{at_:Nat}(h:yR w g b at_)(size:Nat)(h1:1<=size)(h2:size<=7)(Y:at_+size<=60):
  Calls prog 235 #[.pointer (some ⟨g,0,none⟩),.int .i64 (size:Int)] w fun e w'=>e=.returned (.int .i64 ((numB ((b.drop at_).take size):Nat):Int))/\yR w' g b (at_+size)/\Upd (fun p=>p=g) w w':=by
 have c64:=h.c64;have c65:=h.c65;have Z:=h.fz 65;have a6:=qqh h;have ah:=Y3 h1 h2 Y;have ai:=h.2.1;clear h;go_enter func235,ntmps235
 go_wp2_with fail
 rw[show(60:Int)-(at_:Int)=((60-at_:Nat):Int) by omega];refine(RU 0 size (60-at_) h1 h2 (Nat.pow_pos oM) oM oM _).mono ?_;rintro e w' ⟨rfl,rfl⟩;go_wp2
 have M:=a6.o.set65;have N:Upd (fun p=>p=g) w' (w'.setCell ⟨g,65,none⟩ (.int .i64 0)):=zi _ _ _ _;generalize (w'.setCell ⟨g,65,none⟩ (.int .i64 0))=w1 at*;have Q:=Y2 M N;clear M N c64 c65 Z;go_loopw[5,32] (fun a7 H wr=>∃k:Nat,k<=size/\H=.int .i64 k/\a7=.int .i64 ((numB ((b.drop at_).take k):Nat):Int)/\yR wr g b at_/\Upd (fun p=>p=g) w' wr) (fun _ H _=>size-(intOf H).toNat)
 case atStart=>exact⟨0,qXz _,rfl,by simp[numB],Q.o.1,Q.o.2⟩
 case round=>
  obtain⟨k,aj,rfl,rfl,j,E⟩:=hrel;have c64:=j.c64;by_cases hlt:k<size
  .have a8:b.length=64:=j.1;have aa:at_+k<b.length:=oM;have ak:=j.byte aa;have ab:IntKind.i64.wrap ((at_:Int)+(k:Int))=(at_:Int)+(k:Int):=qxt _ oM;have ad:((at_:Int)+(k:Int)).toNat=at_+k:=oM;have ae:IntKind.i64.wrap (8*(k:Int))=8*(k:Int):=qxt _ oM;have J:(0:Int)<=(at_:Int)+(k:Int)/\(at_:Int)+(k:Int)<64:=oM;obtain⟨J,af⟩:=J;have G:(b.drop at_).take (k+1)=(b.drop at_).take k++[b[at_+k]]:=by
    rw[qXk og];simp
   have R:((b.drop at_).take k).length=k:=by simp;omega
   obtain⟨A,T,D⟩:=TK ((b.drop at_).take k) b[at_+k];rw[R]at A T D;have am:b[at_+k].toNat<256:=b[at_+k].toNat_lt;have q:=Y5 j E G A D;clear j E G R A T D a8;generalize b[at_+k].toNat=ag at*;go_wp2
   go_quiet(fail)
   clear ab ad ae J af;have K:(2:Nat)^(8*k)<=281474976710656:=qXr (Nat.pow_le_pow_right de (show 8*k<=48 by omega)) de;have U:bits .or .i64 ((numB ((b.drop at_).take k):Nat):Int) (wrap64 ((ag:Int)*2^(8*k)))=((numB ((b.drop at_).take (k+1)):Nat):Int):=by
    obtain⟨-,-,G,A,D⟩:=q.o;rw[G,A];exact zcp _ _ _ (qXs D K) oM K
   rw[U];have V:=q.o.1.keep ((uur (fun _=>False) wr).drewN nq) id;have W:Upd (fun p=>p=g) w' (wr.drewN nq):=q.o.2.1.drewN nq;have X:=Y2 V W;clear V W U K;generalize wr.drewN nq=an at*;go_wp2
   go_roundw
   case rel=>exact⟨k+1,oM,by go_num,rfl,X.o.1,X.o.2⟩
   case measure=>simp[intOf];omega
  .obtain rfl:k=size:=oM;have ao:=j.fz 64;have L:=j.set64 (n:=at_+k) oM;rw[show((at_+k:Nat):Int)=(at_:Int)+(k:Int)from rfl]at L;have q:=Y2 L E;clear j E L;go_wp2
   go_ret
   exact⟨rfl,q.o.1,q.o.2.trans (zi _ _ _ _)⟩
theorem Uz:Tryz.zeroCells415.size=66:=kR
theorem YZ:Tryz.zeroCells415[64]?=some (.int .i64 0)/\Tryz.zeroCells415[65]?=some (.int .i64 0):=by constructor<;>kernel_rfl
theorem RW(x:Bk)(hx:x.length=64):List.foldl (fun(cs:Array Value) (x:Value×Nat)=>cs.setIfInBounds x.2 x.1) Tryz.zeroCells415 (bkC x).zipIdx=(bkC x++[Value.int .i64 0,Value.int .i64 0]).toArray:=by
 have p:(bkC x).length=64:=by rw[zn,hx]
 obtain⟨D,j⟩:=Go.Great.foldl_set 0 (bkC x) 0 Tryz.zeroCells415;simp only[qXy]at j;apply qxd
 intro k;have e:(bkC x++[Value.int .i64 0,Value.int .i64 0]).toArray[k]?=(bkC x++[Value.int .i64 0,Value.int .i64 0])[k]?:=qyq;rw[j k,Uz,e];by_cases E:k<64
 .rw [if_pos ⟨oM,oM,oM⟩,qyg oM];rfl
 .rw [if_neg oM,qyh oM,p];by_cases q:k=64
  .subst q;exact YZ.1
  .by_cases A:k=65
   .subst A;exact YZ.2
   .rw [qxf (by rw[Uz];omega),qyk og]
theorem zeT(b:Bk)(j:b.length=64):
  Calls prog 234 #[.agg (bkC b).toArray] w fun e w'=>∃g,e=.returned (.pointer (some ⟨g,0,none⟩))/\yR w' g b 0/\w.heap.size<=g/\Below w.heap.size w w':=by
 have q:=zf (zc w (.cells (bkC b).toArray 54) rfl);have p:=qqh j;have A:=RW b j;have D:(bkC b).length=64:=by rw[zn,j]
 clear j;go_enter func234,ntmps234
 go_wp2_with (first
  |(refine qZa rfl _ _ rfl _ _ rfl _ _ q underlying54 rfl (zv _ p.out) ?_)
  |fail)
 go_ret
 exact⟨w.heap.size+1,rfl,⟨p.out,oM,zc _ _ oe⟩,oM,((qxl _ w).alloc (qXp _) _).alloc oe _⟩
def endB(b:Bk)(at_:Nat):Bool:=((b.drop at_).take (60-at_)).all (·==0)
def endC(b:Bk)(at_:Nat):Int:=if endB b at_=true then 0 else 12
theorem zgG{at_:Nat}(h:yR w g b at_):
  Calls prog 236 #[.pointer (some ⟨g,0,none⟩)] w fun e w'=>e=.returned (.int .i64 (endC b at_))/\Below w.heap.size w w':=by
 have c64:=h.c64;have c65:=h.c65;have X:=h.2.1;have A:=qqh h.1;have M:=qqh h;clear h;have D:(0:Int)<=(at_:Int)/\(at_:Int)<=60:=oM;obtain⟨D,Y⟩:=D;have N:IntKind.i64.wrap (60-(at_:Int))=60-(at_:Int):=qxt _ oM;go_enter func236,ntmps236
 go_wp2
 go_quiet(fail)
 go_wp2
 have Q:=M.o.keep ((uur (fun _=>False) w).drewN nq) id;have E:Hid (Below w.heap.size w (w.drewN nq)):=zN (qxl _ w) nq;clear c64 c65 N;generalize w.drewN nq=w1 at*
 go_loop [25] (fun p=>∃k:Nat,k<=60-at_/\p=.int .i64 k/\((b.drop at_).take k).all (·==0)=true) (fun p=>60-at_-(intOf p).toNat)
 case atStart=>exact⟨0,qXz _,rfl,oe⟩
 case round=>
  obtain⟨k,Z,rfl,G⟩:=hrel;have H:=qqh G;clear G;by_cases hlt:k<60-at_
  .have R:at_+k<b.length:=by rw[A.out];omega
   have a6:=Q.byte R;have J:Hid ((b.drop at_).take (k+1)=(b.drop at_).take k++[b[at_+k]]):=by
    show _=_;rw[qXk (by simp;have:=A.out;omega)];simp
   have K:(0:Int)<=(k:Int)/\(k:Int)<((60-at_:Nat):Int):=oM;have a7:(k:Int)<((64-at_:Nat):Int):=oM;obtain⟨K,a8⟩:=K;by_cases j:b[at_+k]=0
   .have L:(((b[at_+k].toNat:Nat):Int)==0)=true:=by rw[j];rfl
    have T:(((b[at_+k].toNat:Nat):Int) !=0)=false:=by rw[j];rfl
    have U:=qqh j;clear j;generalize b[at_+k].toNat=V at*;go_wp2
    go_round
    case rel=>exact⟨k+1,oM,by go_num,by rw[J.out,List.all_append,H.o,U.o];rfl⟩
    case measure=>simp[intOf];omega
   .have L:(((b[at_+k].toNat:Nat):Int)==0)=false:=by
     rw[qYp];intro e;exact j (UInt8.toNat_inj.1 (by have:(0:UInt8).toNat=0:=rfl;omega))
    have T:(((b[at_+k].toNat:Nat):Int) !=0)=true:=by simp[bne,L]
    have q:Hid (endC b at_=12):=by
     show _=_;unfold endC;rw[if_neg];intro e;unfold endB at e;rw[qxu]at e;have W:b[at_+k]∈(b.drop at_).take (60-at_):=by
      have h1:b[at_+k]∈(b.drop at_).take (k+1):=by rw[J.out];simp
      exact(List.take_subset_take_left _ oM) h1
     exact j (by simpa using e _ W)
    clear j;generalize b[at_+k].toNat=V at*;go_wp2
    go_ret
    exact⟨by rw[q.out];rfl,E.o⟩
  .obtain rfl:k=60-at_:=oM;have q:Hid (endC b at_=0):=if_pos H.o;go_wp2
   go_ret
   exact⟨by rw[q.out];rfl,E.o⟩
def bndC(B:List (Int×Int)):List Value:=B.flatMap fun p=>[.int .i64 p.1,.int .i64 p.2]
theorem UA(hi:i<B.length):(bndC B)[i*2]?=some (.int .i64 B[i].1)/\(bndC B)[i*2+1]?=some (.int .i64 B[i].2):=by
 induction B generalizing i with
 |nil=>simp at hi
 |cons p B j=>
  cases i with
  |zero=>exact⟨rfl,rfl⟩
  |succ i=>
   have:=j (i:=i) oB;rw[show(i+1)*2=i*2+2 by omega];exact this
def inB(p:Int×Int)(x:Int):Bool:=decide (p.1<=x)&&decide (x<=p.2)
def withinB(B:List (Int×Int))(xs:List Int):Bool:=(B.zip xs).all fun q=>inB q.1 q.2
def Bnd(w:World)(v:Value)(B:List (Int×Int)):Prop:=
 ∃g h c,v=.func (.func 167) #[] #[.pointer (some ⟨g,0,none⟩)]/\w.cell? ⟨g,0,none⟩=some (.slice (some ⟨h,0,none⟩) B.length c)/\w.rangeAt h 0 (bndC B)
theorem Bnd.below(h:Bnd w v B)(j:Below w.heap.size w w'):Bnd w' v B:=by
 obtain⟨g,k,c,p,q,A⟩:=h;exact⟨g,k,c,p,(uuo (S:=fun _=>False) j).jU q id,Below.range j A⟩
theorem yq{xs:List Int}(h:w.rangeAt g o (ints xs))(j:i<xs.length):w.cell? ⟨g,o+i,none⟩=some (.int .i64 xs[i]):=h i _ (yp j)
theorem uA{j:Type}{l:List j}{p:j->Bool}(q:k<l.length)(h:p l[k]=false):l.all p=false:=by
 rw[<-Bool.not_eq_true];intro e;rw[qxu]at e;have:=e _ (qyu q);rw[h]at this;cases this
theorem vD:Calls prog 94 #[.slice (some ⟨h,0,none⟩) n c] w fun e w'=>e=.returned (.func (.func 167) #[] #[.pointer (some ⟨w.heap.size,0,none⟩)])/\w'=w.alloc (.cells #[.slice (some ⟨h,0,none⟩) n c] 260):=by
 have j:=qqf;go_enter func94,ntmps94
 go_wp2
 go_ret
 exact⟨rfl,rfl⟩
theorem Bnd.made(j:w.rangeAt h 0 (bndC B)):Bnd (w.alloc (.cells #[.slice (some ⟨h,0,none⟩) B.length c] 260)) (.func (.func 167) #[] #[.pointer (some ⟨w.heap.size,0,none⟩)]) B:=
 ⟨w.heap.size,h,c,rfl,za (zc w _ rfl) 0,qYj j _⟩
def spanB(f n:Int):Bool:=decide (0<=f)&&decide (1<=n)&&decide (n<=4096)&&decide (f<=4096-n)
theorem RX(f n:Int)(w:World):Calls prog 254 #[.int .i64 f,.int .i64 n] w fun e w'=>e=.returned (.bool (spanB f n))/\w'=w:=by
 by_cases h1:0<=f
 .by_cases h2:1<=n
  .by_cases p:n<=4096
   .have e:spanB f n=decide (f<=4096-n):=by simp[spanB,h1,h2,p]
    have j:=qqh e;clear e;go_enter func254,ntmps254
    go_wp2
    go_ret
    exact⟨by rw[j.o];rfl,rfl⟩
   .have j:Hid (spanB f n=false):=by show _=_;simp[spanB,p]
    have q:decide (n<=4096)=false:=by simpa using p
    go_enter func254,ntmps254
    go_wp2
    go_ret
    exact⟨by rw[j.o];rfl,rfl⟩
  .have j:Hid (spanB f n=false):=by show _=_;simp[spanB,h2]
   have q:decide (1<=n)=false:=by simpa using h2
   go_enter func254,ntmps254
   go_wp2
   go_ret
   exact⟨by rw[j.o];rfl,rfl⟩
 .have j:Hid (spanB f n=false):=by show _=_;simp[spanB,h1]
  have q:decide (0<=f)=false:=by simpa using h1
  go_enter func254,ntmps254
  go_wp2
  go_ret
  exact⟨by rw[j.o];rfl,rfl⟩
theorem yt{ol m:Nat}(B:List (Int×Int))(xs:List Int)(a7:w.cell? ⟨g,0,none⟩=some (.slice (some ⟨h,0,none⟩) B.length c))(q:w.rangeAt h 0 (bndC B))(hx:w.rangeAt gl ol (ints xs))(J:xs.length=m)(a8:B.length<=m)(aa:m<=100):
  Calls prog 167 #[.slice (some ⟨gl,ol,none⟩) m cl,.pointer (some ⟨g,0,none⟩)] w fun e w'=>e=.returned (.bool (withinB B xs))/\Below w.heap.size w w':=by
 have Y:=Y3 q hx J;clear q hx J;go_enter func167,ntmps167
 go_wp2
 go_loopw[8] (fun K wr=>∃k:Nat,k<=B.length/\K=.int .i64 k/\Below w.heap.size w wr/\((B.zip xs).take k).all (fun U=>inB U.1 U.2)=true) (fun K _=>B.length-(intOf K).toNat)
 case atStart=>exact⟨0,qXz _,rfl,qxl _ _,oe⟩
 case round=>
  obtain⟨k,ab,rfl,E,V⟩:=hrel;have G:=Y2 V E;by_cases hlt:k<B.length
  .obtain ⟨q,hx,J⟩:=Y.o;have Z:k<xs.length:=oM;have L:=(Below.range E q) (k*2) _ (UA hlt).1;have M:=(Below.range E q) (k*2+1) _ (UA hlt).2;have W:=yq (Below.range E hx) Z;rw[qXy]at L M;have a6:Hid (((B.zip xs).take (k+1))=(B.zip xs).take k++[(B[k],xs[k])]):=by
    show _=_;rw[qXk jj,List.getElem_zip]
   obtain⟨j,A,N⟩:∃j A,B[k]=(j,A):=⟨_,_,rfl⟩
   have Q:=qqh N;rw[N]at L M;simp only at L M;have X:(0:Int)<=(k:Int)/\(k:Int)<(B.length:Int)/\(k:Int)<(m:Int):=oM;have ad:wr.heap.size<=wr.heap.size:=qXp _;clear N V q hx J E;obtain⟨X,ae,af⟩:=X;obtain⟨x,R⟩:∃x,xs[k]=x:=⟨_,rfl⟩
   have T:=qqh R;rw[R]at W;have ag:gl<wr.heap.size:=qYh wr _ W;clear R;have D:Below w.heap.size w (wr.alloc (.cells #[.int .i64 j,.int .i64 A] 176)):=G.o.2.alloc G.o.2.size _;by_cases h1:x<j
   .have p:Hid (withinB B xs=false):=by
     show _=_;refine uA (k:=k) jj ?_;rw[List.getElem_zip,Q.o,T.o];simp[inB];omega
    have q1:decide (x<j)=true:=by simpa using h1
    clear h1;have H:=qqh D;clear D;go_wp2
    go_quiet(fail)
    go_wp2
    go_ret
    exact⟨by rw[p.out];rfl,zN H.o _⟩
   .by_cases h2:A<x
    .have p:Hid (withinB B xs=false):=by
      show _=_;refine uA (k:=k) jj ?_;rw[List.getElem_zip,Q.o,T.o];simp[inB];omega
     have q1:decide (x<j)=false:=by simpa using h1
     have q2:decide (A<x)=true:=by simpa using h2
     clear h1 h2;have H:=qqh D;clear D;go_wp2
     go_quiet(fail)
     go_wp2
     go_ret
     exact⟨by rw[p.out];rfl,zN H.o _⟩
    .have p:Hid (inB (B[k],xs[k]).1 (B[k],xs[k]).2=true):=by
      show _=_;rw[Q.o,T.o];simp[inB];omega
     have q1:decide (x<j)=false:=by simpa using h1
     have q2:decide (A<x)=false:=by simpa using h2
     clear h1 h2;have H:=qqh D;clear D;go_wp2
     go_quiet(fail)
     go_wp2
     go_roundw
     case rel=>exact⟨k+1,oM,by go_num,zN H.o _,by rw[a6.out,List.all_append,G.o.1];simpa using p.out⟩
     case measure=>simp[intOf];omega
  .obtain rfl:k=B.length:=oM;have p:Hid (withinB B xs=true):=by
    have:=G.o.1;rw[qXj jj]at this;exact this
   go_wp2
   go_ret
   exact⟨by rw[p.out];rfl,G.o.2⟩
theorem zeU(a b c d:Int)(w:World):
  Calls prog 252 #[.agg #[.int .i64 a,.int .i64 b,.int .i64 c,.int .i64 d]] w fun e w'=>∃g,e=.returned (.slice (some ⟨g,0,none⟩) 4 4)/\w'.heap[g]?=some (.cells (ints [a,b,c,d]).toArray 3 (0,0))/\w.heap.size<=g/\Below w.heap.size w w':=by
 go_enter func252,ntmps252
 go_wp2
 go_ret
 exact⟨w.heap.size+1,rfl,zc _ _ oe,oM,((qxl _ w).alloc (qXp _) _).alloc oe _⟩
def ZG:List (Int×Int):=[(0,1099511627776),(0,1099511627776)]
def mayI(xs:List Int):Bool:=withinB ZG xs&&spanB (xs.getD 2 0) (xs.getD 3 0)
theorem RY{ol K:Nat}(a b c d:Int)(X:w.cell? ⟨K,0,none⟩=some v)(R:Bnd w v ZG)(hx:w.rangeAt gl ol (ints [a,b,c,d])):
  Calls prog 253 #[.slice (some ⟨gl,ol,none⟩) 4 cl,.pointer (some ⟨K,0,none⟩)] w fun e w'=>e=.returned (.bool (mayI [a,b,c,d]))/\Below w.heap.size w w':=by
 have a6:=qqh R;obtain⟨g,h,a7,rfl,T,U⟩:=R;have Y:=yq hx (i:=2) oe;have Z:=yq hx (i:=3) oe;simp at Y Z;have L:Upd (fun _=>False) w w.drew:=(uur _ _).drew;have D:=Y3 (L.range hx id) (L.jU T id) (L.range U id);have V:mayI [a,b,c,d]=(withinB ZG [a,b,c,d]&&spanB c d):=rfl;have M:=qqh V;clear hx U V T L;obtain⟨N,G⟩:∃N,withinB ZG [a,b,c,d]=N:=⟨_,rfl⟩
 have W:=qqh G;cases N
 .rw [G]at M;clear G;go_enter func253,ntmps253
  go_wp2
  refine qZd (S:=fun p=>p.cell? ⟨K,0,none⟩=some (.func (.func 167) #[] #[.pointer (some ⟨g,0,none⟩)])) kR (by rw[qYi];exact X) (fun E=>?_);refine qYz (i:=0) (v:=?_) rfl kR kR kR (fun _ _ _ h=>h) (Or.inl ⟨by rfl,?_⟩) E ?_
  rotate_left
  .intro p H;(try dsimp only at H);(try go_split_ands);go_simp;(try with_reducible rfl)
  simp only[Act.put,qXd];refine qYz (i:=1) (v:=?_) rfl kR kR kR (fun _ _ _ h=>h) (Or.inl ⟨by rfl,?_⟩) E ?_
  rotate_left
  .intro p H;(try dsimp only at H);(try go_split_ands);go_simp;(try with_reducible rfl)
  simp only[Act.put];refine Wl.r 2 (fun J q=>?_);go_simp
  refine(yt ZG [a,b,c,d] D.o.2.1 D.o.2.2 D.o.1 rfl (by show 2<=4;decide) (by show 4<=100;decide)).mono ?_;rw[W.o];rintro e w' ⟨rfl,A⟩;refine q.o _ _ ((uuo (S:=fun _=>False) A).jU E id) (fun j=>?_);clear q J;refine qYz (i:=3) (v:=?_) rfl kR kR kR (fun _ _ _ h=>h) (Or.inl ⟨by rfl,?_⟩) j ?_
  rotate_left
  .intro p H;(try dsimp only at H);(try go_split_ands);go_simp;(try with_reducible rfl)
  simp only[Act.put,qXd]
  refine' qYz (i:=4) rfl kR kR kR (fun _ _ _ h=>h) (Or.inr ⟨by rfl,rfl⟩) j _
  simp only[Act.put]
  refine' qYz (i:=5) rfl kR kR kR (fun _ _ _ h=>h) (Or.inr ⟨by rfl,rfl⟩) j _
  simp only[Act.put]
  refine' qYz (i:=6) rfl kR kR kR (fun _ _ _ h=>h) (Or.inr ⟨by rfl,rfl⟩) j _
  simp only[Act.put]
  refine' qYz (i:=7) rfl kR kR kR (fun _ _ _ h=>h) (Or.inr ⟨by rfl,rfl⟩) j _
  simp only[Act.put]
  refine' qYz (i:=8) rfl kR kR kR (fun _ _ _ h=>h) (Or.inr ⟨by rfl,rfl⟩) j _
  simp only[Act.put]
  refine' qYz (i:=9) rfl kR kR kR (fun _ _ _ h=>h) (Or.inr ⟨by rfl,rfl⟩) j _
  simp only[Act.put]
  refine' qYz (i:=10) rfl kR kR kR (fun _ _ _ h=>h) (Or.inr ⟨by rfl,rfl⟩) j _
  simp only[Act.put];refine Wl.r 11 (fun J q=>?_);go_simp
  refine q.o _ _ (j) (fun _=>?_);clear q J;refine Wl.r 12 (fun J q=>?_);go_simp
  refine q.o _ _ (j) (fun _=>?_);clear q J;refine Wl.d ?_;have Q:Hid (Below w.heap.size w w'):=yj A;clear A E j;go_wp2
  go_ret
  exact⟨by rw[M.o];rfl,Q.o⟩
 .rw [G]at M;clear G;go_enter func253,ntmps253
  go_wp2
  go_region_held3 (fun p=>p.cell? ⟨K,0,none⟩=some (.func (.func 167) #[] #[.pointer (some ⟨g,0,none⟩)])/\p.cell? ⟨gl,ol+2,none⟩=some (.int .i64 c)/\p.cell? ⟨gl,ol+3,none⟩=some (.int .i64 d)/\Below w.heap.size w p)
   ((go_split_ands;(simp only[qYi]at*);(refine⟨?_,?_,?_,?_⟩)<;>first|assumption|(exact zN (qxl _ w) 1)|(exact(uuo (S:=fun _=>False) jM).jU jM id)|(exact Below.trans jM jM)))
   (first|(go_at_call 167;refine(yt ZG [a,b,c,d] D.o.2.1 D.o.2.2 D.o.1 rfl (by show 2<=4;decide) (by show 4<=100;decide)).mono ?_;rw[W.o];rintro e w' ⟨rfl,A⟩)|(go_at_call 254;refine(RX _ _ _).mono ?_;rintro e w' ⟨rfl,rfl⟩))
  rename_i w' A E
  have Q:Hid (Below w.heap.size w w'):=yj A;clear A E;go_wp2
  go_ret
  exact⟨by rw[M.o];rfl,Q.o⟩
theorem wv:(prog.info? 107).map (·.size)=some 4:=kR
theorem Xa(w:World)(p B C D E:Obj):let j:=((((w.alloc p).alloc B).alloc C).alloc D).alloc E
  j.heap[w.heap.size]?=some p/\j.heap[w.heap.size+1]?=some B/\j.heap[w.heap.size+1+1]?=some C/\j.heap[w.heap.size+1+1+1]?=some D/\j.heap[w.heap.size+1+1+1+1]?=some E/\j.heap.size=w.heap.size+5/\Upd (fun _=>False) w j:=by
 obtain⟨h1,h2,q,A,H,G⟩:=xS w p B C D;refine⟨?_,?_,?_,?_,zc _ _ oe,oe,G.alloc _⟩
 .rw [qxk _ _ _ (zd h1)];exact h1
 .rw [qxk _ _ _ (zd h2)];exact h2
 .rw [qxk _ _ _ (zd q)];exact q
 .rw [qxk _ _ _ (zd A)];exact A
def RZ(gs gt:Nat):Value:=.agg #[.int .i64 4,.slice (some ⟨gs,0,none⟩) 4 4,.func (.func 252) #[] #[],.func (.func 253) #[] #[.pointer (some ⟨gt,0,none⟩)],.func (.func 255) #[] #[]]
def zbX(w:World)(gs gt:Nat):Prop:=w.rangeAt gs 0 (ints [6,6,2,2])/\∃v,w.cell? ⟨gt,0,none⟩=some v/\Bnd w v ZG
theorem AK:(prog.info? 308).map (·.size)=some 5:=kR
theorem Xb(w:World):Calls prog 191 #[] w fun e w'=>∃gs j,e=.returned (RZ gs j)/\zbX w' gs j/\Below w.heap.size w w':=by
 have E:=qqf;go_enter func191,ntmps191
 go_wp2_with fail
 refine(vD).mono ?_;rintro e w1 ⟨rfl,rfl⟩;go_wp2
 obtain⟨h1,h2,p,q,A,G,D⟩:=Xa w (.cells #[.int .i64 4,.slice (some ⟨w.heap.size+1+1+1+1,0,none⟩) 4 4,.func (.func 252) #[] #[],.func (.func 253) #[] #[.pointer (some ⟨w.heap.size+1+1+1,0,none⟩)],.func (.func 255) #[] #[]] 308)
  (.cells (bndC ZG).toArray 176) (.cells #[.slice (some ⟨w.heap.size+1,0,none⟩) 2 2] 260) (.cells #[.func (.func 167) #[] #[.pointer (some ⟨w.heap.size+1+1,0,none⟩)]] 114) (.cells (ints [6,6,2,2]).toArray 3)
 refine qYq (zq rfl _ _ w.heap.size 0 [.int .i64 4,.slice (some ⟨w.heap.size+1+1+1+1,0,none⟩) 4 4,.func (.func 252) #[] #[],.func (.func 253) #[] #[.pointer (some ⟨w.heap.size+1+1+1,0,none⟩)],.func (.func 255) #[] #[]] _ rfl (zf h1) underlying308 rfl AK) rfl
  ⟨w.heap.size+1+1+1+1,w.heap.size+1+1+1,rfl,⟨zf A,_,za q 0,w.heap.size+1+1,w.heap.size+1,2,rfl,za p 0,zf h2⟩,Upd.below D⟩
end Go.Proofs.YtbnpkobbnjihjaaGreatDoor
