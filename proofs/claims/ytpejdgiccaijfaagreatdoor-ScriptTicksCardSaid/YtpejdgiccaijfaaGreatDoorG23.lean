/- Pages: Read of -/
import Derived.Test.YtpejdgiccaijfaaGreatDoorG19
import Derived.Test.YtpejdgiccaijfaaGreatDoorG18
set_option maxRecDepth 100000
set_option maxHeartbeats 4000000
namespace Go.Proofs.YtpejdgiccaijfaaGreatDoor
open Go Go.RowKit Tryz
variable{S:Nat->Prop}{w:World}{b:Nat}{F:List Bk}{O:List (Nat×Bk)}
section
open Go.Shelf
attribute [local go_sem] qYb
section
variable{F:Fence}{n:Nat}{P:Program}{ops:Array Oper}{rest:List Oper}{op:Oper}{a:Act}{w:World}{Q:Exit->Act->World->Prop}
theorem YQ(q:op.guard=none)(j k:TypeId)(p:Operand)(ho:op.op=.buildSlice j 1 #[(0,p)])(cs:List Value)(s:a.eval p=.agg cs.toArray)
  (v:(Instr.buildSlice j 1 #[(0,.agg cs.toArray)]).run P w=.ok (.slice (some ⟨w.heap.size,0,none⟩) 1 1) (w.alloc (.cells cs.toArray k)))
  (h:wpListIn F n P ops Q rest (a.put op.dst (.slice (some ⟨w.heap.size,0,none⟩) 1 1)) (w.alloc (.cells cs.toArray k))):wpListIn F n P ops Q (op::rest) a w:=by
 refine wpListIn_plain q fun K A=>?_;unfold Oper.wpIn;refine⟨by simp[Oper.about,ho],?_⟩;rw[Oper.semAt_plain F _ _ jL];simp only[execOp,ho,qzl,qzi,qzk,s,qYg,v,qYf];exact A _ _ h
theorem YR(j:op.guard=none)(s x:Operand)(t:TypeId)(h:op.op=Op.call {callee:=Callee.builtin Builtin.append,args:= #[s,x],argTypes:= #[t,t]})(v x':Value)(k:a.eval s=v)(hx:a.eval x=x')(v':Value)(w':World)
  (p:(Builtin.append_ #[t,t] op.type #[v,x']).run P w=.ok v' w') (q:wpListIn F n P ops Q rest (a.put op.dst v') w'):wpListIn F n P ops Q (op::rest) a w:=by
 refine wpListIn_plain j fun K A=>?_;unfold Oper.wpIn;refine⟨?_,?_⟩
 .simp [Oper.about,h,resolve,Target.leads,Sem.run_pure]
 .rw [Oper.semAt_plain F _ _ (by rw[h];intro c D;cases D)];simp[execOp,h,resolve,invoke,builtin,k,hx,p,Result.andThen];exact A _ _ q
end
theorem Uc(m:Nat)(A:m<=4096):∃j:Array Value,j.size=m*64/\∀w:World,(Instr.makeSlice 32 (.int .i64 0) (.int .i64 (m:Int))).run prog w=.ok (.slice (some ⟨w.heap.size,0,none⟩) 0 m) (w.alloc (.cells j 60)):=by
 obtain⟨k,z,p,q,D,s,v⟩:=yt;refine⟨madeCells z.cells (m*64),by simp[size_madeCells],fun w=>?_⟩;have:=run_make (P:=prog) w 32 60 k z underlying32 p q .i64 .i64 0 m oM oM (by rw[v];omega) oM;rw[this];simp only[qxt,s];rfl
def secsOf(F:List Bk)(O:List (Nat×Bk))(base m:Nat):List Bk:=(List.range m).map fun i=>curB F O (base+i)
theorem wZ(F:List Bk)(O:List (Nat×Bk))(base m:Nat):(secsOf F O base m).length=m:=by simp[secsOf]
def zfo(S:Nat->Prop)(w:World)(b:Nat)(F:List Bk)(O:List (Nat×Bk))(l:List Bk)(e:Ending)(w':World):Prop:=
 ∃v,e=.returned (.tuple #[.int .i64 ((if readOk l then readSeq l else 0:Nat):Int),v,.int .i64 (if readOk l then 0 else 14)])/\Sl w' 155 4 v (if readOk l then readEs l else[]).length ((if readOk l then readEs l else[]).flatMap entC)/\From w.heap.size v/\Dv (fun j=>S j/\∀g,v.ownBlock=some g->g≠j) w' b F O []/\Upd S w w'
def PrI(T D:Nat->Prop)(w5:World)(b lb rb:Nat)(F:List Bk)(O:List (Nat×Bk))(base:Nat){m:Nat}(pre:List {i:Nat//i<m})(W:World):Prop:=
 Upd T w5 W/\∃v S1,W.heap[lb]?=some (.cells #[v] 32 (0,0))/\Sl W 60 64 v pre.length (rowC (pre.map fun x=>curB F O (base+x.1)))/\(∀g,v.ownBlock=some g->g=rb\/w5.heap.size<=g)/\
  Dv S1 W b F O []/\(∀j,S1 j->D j)/\(∀j,S1 j->∃cs t z,W.heap[j]?=some (.cells cs t z))/\∀g,v.ownBlock=some g->¬S1 g
theorem zfp(ae:Dv S w b F O [])(ax:∀j,w.heap.size<=j->S j)(base m:Nat)(cE:1<=m)(cF:base+m<=F.length)(b5:Nib w)(b6:¬S 0):
  Calls prog 199 #[.pointer (some ⟨b,0,none⟩),.int .i64 (base:Int),.int .i64 (m:Int)] w (zfo S w b F O (secsOf F O base m)):=by
 have dr:=ae.good.fl;obtain⟨bt,bT,bU⟩:=Uc m oM;obtain⟨w1,b7⟩:=qqe ((((w.alloc (.cells #[.pointer (some ⟨b,0,none⟩)] 38)).alloc (.cells #[.int .i64 0] 3)).alloc (.cells #[.slice none 0 0] 146)).alloc (.cells #[.int .i64 0] 31));have aH:Upd (fun _=>False) w w1:=by rw[b7];exact((((uur _ w).alloc _).alloc _).alloc _).alloc _
 obtain⟨ay,af,ag,az,bu,-⟩:=xK w (.cells #[.pointer (some ⟨b,0,none⟩)] 38) (.cells #[.int .i64 0] 3) (.cells #[.slice none 0 0] 146) (.cells #[.int .i64 0] 31);rw[<-b7]at ay af ag az bu;obtain⟨a6,aI⟩:=qqe ((w1.alloc (.cells bt 60)).alloc (.cells #[.slice (some ⟨w1.heap.size,0,none⟩) 0 m] 32));have s:Upd (fun _=>False) w1 a6:=by rw[aI];exact((uur _ w1).alloc _).alloc _
 have b8:a6.heap.size=w1.heap.size+2:=by rw[aI];simp
 have aA:a6.heap[w1.heap.size]?=some (.cells bt 60 (0,0)):=by rw[aI];exact(qxk _ _ _ oe).trans (zc w1 _ rfl)
 have aB:a6.heap[w1.heap.size+1]?=some (.cells #[.slice (some ⟨w1.heap.size,0,none⟩) 0 m] 32 (0,0)):=by rw[aI];exact zc _ _ oe
 have cG:=ae.new aH;have cH:=qqh b7;have cI:=qqh aI;have aJ:=Y15 ae ax b5 b6 aH s bu b8 aA aB bT ay af ag az;clear ae ax b5 b6 aH s aA aB b7 aI af ag az b8 ay;refine(callsIn_wide (n:=3)).1 ?_;refine callsIn_of_wp_marks func199 rfl trivial ?_ rfl;simp only[ntmps199,qXi,qza,qzd,Nat.reduceAdd,Nat.reduceSub,qxi,qxj,qXc,qxy,qzv,qxz];refine wpIn_wide.2 ?_;go_wp2_with fail
 rw[<-cH.o];refine(SC cG base m cE cF).mono ?_;rintro e b9 ⟨rfl,rfl⟩;go_wp2_with fail
 have cJ:=bU;have bV:=aJ.o.2.2.2.2.2.2.1;obtain⟨k,ah⟩:=qqe (w.heap.size);have ba:=qqh ah;have bv:=cI.o;rw[bV]at bv;rw[<-bv,<-ah];refine(qu (base:Int) (m:Int) a6).mono ?_;rintro e N ⟨rfl,aP⟩;obtain⟨ae,ax,b5,b6,aH,s,bW,b8,aA,aB,cK,ay,af,ag,az⟩:=aJ.o;have ap:Upd (fun _=>False) a6 N:=by rw[aP];exact((uur _ a6).alloc _).alloc _
 have ds:N.heap.size=k+8:=by rw[aP];simp;omega
 have bx:a6.heap.size=k+6:=oM;have cL:N.cell? ⟨k+6,0,none⟩=some (.int .i64 (base:Int)):=by
  rw[aP,<-bx];exact(za ((qxk _ _ _ oe).trans (zc a6 _ rfl)) 0)
 have cM:N.cell? ⟨k+7,0,none⟩=some (.int .i64 (m:Int)):=by
  rw[aP,show k+7=a6.heap.size+1 by omega];exact(za (zc _ _ oe) 0)
 have a7:Upd (fun _=>False) w N:=(aH.trans s).trans ap;obtain⟨L,J⟩:∃L:Nat->Prop,L=fun j=>(S j/\j<k)\/(k+4<=j/\j<k+6)\/k+8<=j:=⟨_,rfl⟩
 obtain⟨a8,ai⟩:∃a8:Nat->Prop,a8=fun j=>(S j/\j<k)\/k+8<=j:=⟨_,rfl⟩
 have aj:∀j,a8 j->L j:=fun j h=>by rw[ai]at h;rw[J];exact h.imp id .inr
 have U:∀j,k<=j->j<k+8->¬a8 j:=fun j h1 h2 h=>by rw[ai]at h;rcases h with h|h<;>omega
 have ak:∀j,k+8<=j->a8 j:=fun j h=>by rw[ai];exact .inr h
 have aQ:∀j,k+8<=j->L j:=fun j p=>by rw[J];exact .inr (.inr p)
 have aR:∀j,k<=j->j<k+4\/(k+6<=j/\j<k+8)->¬L j:=fun j h1 h2 h=>by rw[J]at h;rcases h with h|h|h<;>omega
 have am:L (k+4):=by rw[J];exact .inr (.inl oM)
 have an:L (k+5):=by rw[J];exact .inr (.inl oM)
 have bz:Dv a8 N b F O []:=((ae.kI (T:=fun j=>S j/\j<k) (fun j h1 h2=>⟨h1,oM⟩)).new a7).wide (fun j h=>by rw[ai];exact .inl h);obtain⟨aC,aS,X,aa⟩:=bz.exact;rw[bW]at aA aB;rw[<-ah]at ay af ag az aA aB;have aq:=(s.trans ap).j4 ay;have aT:=(s.trans ap).j4 af;have aK:=(s.trans ap).j4 ag;have aU:=(s.trans ap).j4 az;have aV:=ap.j4 aA;have bX:=ap.j4 aB;have bY:Sl N 60 64 (.slice (some ⟨k+4,0,none⟩) 0 m) 0 []:=⟨rfl,.inr ⟨k+4,0,m,bt,rfl,aV,oM,by unfold maxLen;omega,by rw[bT];omega,fun j u h=>by cases h⟩⟩
 have bZ:=Y15 bz aQ aR aq aT aK aU J a7 am an ai aj U ak;have cN:Hid (PrI L a8 N b (k+5) (k+4) F O base ([]:List {i:Nat//i<m}) N):=⟨uur _ _,_,aC,bX,bY,fun g q=>by cases q;exact .inl rfl,aS,X,aa,fun g q A=>by cases q;exact U (k+4) oM oM (X _ A)⟩
 rw[bx];clear ae ax b5 b6 aH s aA aB cK ay af ag az ap aq aT aK aU aV bX bY bz a7 J ai aS X aa bv aP b8 bx bU cJ ah bu bW bV;go_wp2_with fail
 refine(wpIn_wide (n:=3)).1 ?_
 refine' wpIn_rangeFunc_ownF rfl oM (gf:=196) (lb:= #[.pointer (some ⟨k+7,0,none⟩),.pointer (some ⟨k+6,0,none⟩)]) rfl trivial (enters_of func196 kR rfl)
  (ZF _ oM L (k+7) (k+6) base m N oM oM oM oM (aR _ oM (.inr oM)) (aR _ oM (.inr oM)) cM cL) uy (fun E l o cO cP=>wL (M:=k+8) aQ E l o cO oM) (qxl _ _) (fun _=>rfl)
  (PrI L a8 N b (k+5) (k+4) F O base)
  (fun _ _ _=>False)
  (fun ar cQ cR cT A q bb=>by
   obtain⟨G,aD,aC,cU,A,V,ae,X,aa,cV⟩:=A;have c0:∀{j:Nat} {cs:Array Value} {t:TypeId} {z:Nat×Nat},cQ.heap[j]?=some (Obj.cells cs t z)->cR.heap[j]?=some (Obj.cells cs t z):=fun h=>(grownBy_keeps_cells q (fun r e=>(bb r e).2) h rfl).trans h;exact⟨yJ G q (fun r e=>aQ r (by have:=(bb r e).1;omega)),aD,aC,c0 cU,
    A.keep (Upd.kC (S:=fun j=>cT=some j) q (fun g e _=>e)) (fun g cW e=>by
     obtain⟨o,bA,W⟩:=(bb g e).2;obtain⟨cs,t,z,cX⟩:=A.cellsAt cW;rw[cX]at bA;cases bA;cases W),V,ae.grown q (fun r e=>(bb r e).2),X,fun j p=>by obtain⟨cs,t,z,h⟩:=aa j p;exact⟨cs,t,z,c0 h⟩,cV⟩)
  (fun _ _ _ _ _ A _ _=>A)
  cN.o
  _ ?assign ?body ?done ?stop
 case assign=>
  intro l x E K au
  gi_wp2
  exact au
 case stop=>
  rintro a8 c ar E _ _ h _;exact h.elim
 case body=>
  rintro l ar ⟨i,c3⟩ E ⟨G,aD,aC,ab,hsl,V,Y,H,Z,av⟩ hlt;obtain⟨-,-,-,aq,-,-,-,J,-,am,an,ai,aj,U,ak⟩:=bZ.o;have bc:=G.size;have bB:=(G.block _ (zd aq) (aR _ (qXp _) (.inl oM))).trans aq;have dt:E.cell? ⟨k,0,none⟩=some (.pointer (some ⟨b,0,none⟩)):=za bB 0;have c4:=ux (S:=fun j=>aC j\/E.heap.size<=j) (Y.wide (fun _ h=> .inl h)) (fun _ h=> .inr h) (base+i) oM;have cY:=qqh c4;have du:=zd bB;have cZ:=zd ab;have d0:=Y14 G ab hsl V Y H Z av bc an aj U ak am;clear aq J am ak bB c4 G ab hsl V Y H Z av an ai aj U bc
  gi_wp2_with fail
  refine⟨trivial,?_⟩;rw[show((base:Int)+(i:Int))=((base+i:Nat):Int) by simp];refine(CallsIn.inRound l (callsIn_wide.2 cY.o)).mono ?_;rintro e D ⟨y,d1,rfl,hy,c5,bC,c6,s⟩;have d2:d1=0:=by rw[c5];rfl
  have c7:y=curB F O (base+i):=by rw[hy];rfl
  subst d2;obtain⟨G,ab,hsl,V,Y,H,Z,av,bc,an,aj,U,ak,am⟩:=d0.o;obtain⟨bD,bE,aE,X⟩:=c6.exact;have aW:=s.size;have c8:¬(aC (k+5)\/E.heap.size<=k+5):=fun h=>by
   rcases h with h|h
   .exact U _ oM oM (H _ h)
   .omega
  have bd:=(s.block (k+5) cZ c8).trans ab;have c9:=hsl.keep s (fun g q h=>by
   rcases h with h|h
   .exact av g q h
   .have:=hsl.lt q;omega)
  obtain⟨aX,aY⟩:=qqe ((D.alloc (.cells (bkC y).toArray 60)).alloc (.cells (bkC y).toArray 60));have aF:Upd (fun _=>False) D aX:=by rw[aY];exact((uur _ D).alloc _).alloc _
  have d3:aX.heap.size=D.heap.size+2:=by rw[aY];simp
  have aV:aX.heap[D.heap.size+1]?=some (.cells (bkC y).toArray 60 (0,0)):=by rw[aY];exact zc _ _ oe
  have bF:=aF.j4 bd;have bG:=c9.keep aF (fun _ _ h=>h);obtain⟨d4,d5,d6,d7,d8,d9,da⟩:=yt;have dw:ar.length<=4096:=oM;obtain⟨dx,b9,bH,bI,aL,cb⟩:=xh (P:=prog) (m:=1) (x':=.slice (some ⟨D.heap.size+1,0,none⟩) 1 1) (news:=bkC y) 32 32 d4 d5 64 underlying32 d6 d7 d9 da d8 de bG
   ⟨by rw[zm,bC],de,_,_,rfl,(fun h=>by cases h),fun b db j u p=>by cases db;rw[qxa,za aV];simpa using p⟩ (zx y) (by simp only[maxLen];omega) oM
  obtain⟨be,bf,dc⟩:=bI.rd.j6;subst dc;have bJ:∀g,aD.ownBlock=some g->g≠k+5:=fun g q e=>by
   have:=V g q;omega
  have aZ:=(aL.block (k+5) (zd bF) (fun h=>bJ _ h rfl)).trans bF;obtain⟨aG,bg⟩:=qqe (b9.setCell ⟨k+5,0,none⟩ (.slice be (ar.length+1) bf));have aM:Upd (fun j=>j=k+5) b9 aG:=by rw[bg];exact zi _ _ _ _
  have cc:aG.heap[k+5]?=some (.cells #[.slice be (ar.length+1) bf] 32 (0,0)):=by rw[bg];exact zh aZ 0 _
  have bh:=za bd 0;have dy:=za aZ 0;have dz:=zf aZ 0;have dA:=zd bd;have cd:(bkC y).length=64:=by rw[zm,bC]
  have ce:=VF (.agg (bkC y).toArray) (by simpa[Value.cells]using cd) (D.alloc (.cells (bkC y).toArray 60));have cf:=zu y bC;have ch:(D.alloc (.cells (bkC y).toArray 60)).rangeAt D.heap.size 0 (bkC y):=zg (zc D _ rfl);have bi:∀g,(Value.slice be (ar.length+1) bf).ownBlock=some g->(aD.ownBlock=some g\/aX.heap.size<=g):=fun g q=>by
   rcases cb with e|⟨aK,e,hge⟩
   .rw [e]at q;exact .inl q
   .rw [e]at q;cases q;exact .inr hge
  have bK:Upd L E aG:=by
   refine(((s.mono (fun j _ h=>?_)).trans (aF.mono fE)).trans (aL.mono (fun j _ h=>?_))).trans (aM.mono (fun j _ h=>h▸an))
   .rcases h with h|h
    .exact aj _ (H _ h)
    .exact aQ _ oM
   .rcases V j h with rfl|h
    .exact am
    .exact aQ _ oM
  have bj:∀j,bD j->aD.ownBlock≠some j:=fun j p e=>by
   rcases aE j p with h|h
   .exact av j e h
   .have:=hsl.lt e;omega
  have bL:∀j,bD j->j≠k+5:=fun j p e=>by
   rcases aE j p with h|h
   .exact U _ oM oM (H _ (e▸h))
   .omega
  have ci:KeepsOthers E aG/\Upd L E aG/\PrI L a8 N b (k+5) (k+4) F O base (ar++[(⟨i,c3⟩:{i:Nat//i<m})]) aG:=by
   refine⟨?_,bK,G.trans bK,_,bD,cc,?_,fun g q=>?_,?_,fun j p=>?_,fun j p=>?_,fun g q A=>?_⟩
   .have af:KeepsOthers E D:=zD s (fun j p cP=>by
     rcases p with p|p
     .exact Z j p
     .omega)
    have ag:KeepsOthers D aX:=⟨oM,fun dB o dd bA=>aF.j4 dd⟩
    exact((af.trans ag).trans (zD aL (fun j p _=>bG.cellsAt p))).trans (zD aM (fun j p _=>⟨_,_,_,p▸aZ⟩))
   .rw [qyz,qzh];show Sl aG _ _ _ _ (rowC (_++[curB F O (base+i)]));rw[ww,<-c7];exact bI.keep aM (fun g q e=>by
     rcases bi g q with h|h
     .exact bJ g h e
     .omega)
   .rcases bi g q with h|h
    .exact V g h
    .right;omega
   .exact ((bE.keep aF (fun _ _ h=>h)).keep aL (fun j p h=>bj j p h)).keep aM (fun j p e=>bL j p e)
   .rcases aE j p with h|h
    .exact H j h
    .exact ak j oM
   .obtain ⟨cs,t,z,W⟩:=X j p;have q1:=aF.j4 W;have q2:=(aL.block j (zd q1) (fun h=>bj j p h)).trans q1;exact⟨cs,t,z,(aM.block j (zd q2) (fun e=>bL j p e)).trans q2⟩
   .rcases bi g q with h|h
    .exact bj g A h
    .obtain ⟨cs,t,z,W⟩:=X g A;have:=zd W;omega
  have df:=qqh ci;have dg:=qqh bg;rw[aY]at bH;have cj:=qqh bH;clear ci bK bj bL bg bH aY aF d3 aV bF bG bI aL cb bi bJ aM cc bE aE X aW c8 bd c9 G ab hsl V Y H Z av bc an aj U ak am hy c5 c7 c6 s aZ
  gi_wp2_with (first
   |(refine xN rfl _ _ _ rfl _ _ (bkC y) rfl rfl (by rw[cd];rfl) cf (zx y) ?_)
   |(refine yM rfl 60 _ rfl _ _ rfl _ _ ch underlying60 rfl cf ?_)
   |(refine YQ rfl 32 60 _ rfl (bkC y) rfl ce ?_)
   |(gi_at_builtin;refine Stop.i ?_)
   |fail)
  refine YR rfl _ _ 32 rfl aD (.slice (some ⟨D.heap.size+1,0,none⟩) 1 1) ?a1 ?a2 (.slice be (ar.length+1) bf) b9 ?a3 ?a4
  case a1=>rfl
  case a2=>rfl
  case a3=>
   dsimp only
   with_reducible exact cj.out
  case a4=>
   clear ch ce cj
   gi_wp2
   rw[<-dg.o];exact df.o
 case done=>
  rintro b0 cl E ai bM ⟨G,aD,aC,ab,hsl,V,Y,H,Z,av⟩ au;obtain⟨-,-,-,aq,aT,aK,aU,J,a7,am,an,b1,aj,U,ak⟩:=bZ.o;have dh:cl.length=m:=by have:=congrArg List.length bM;simpa using this
  have co:cl.map (fun x=>curB F O (base+x.1))=secsOf F O base m:=by
   unfold secsOf;rw[<-bM,qzj];rfl
  rw[dh,co]at hsl;obtain⟨di,dj,rfl⟩:=hsl.rd.j6;have dC:=za ab 0;have dD:=zd ab;have cp:Nib E:=aJ.o.2.2.1.keep (S:=fun j=>L j) ((a7.mono fE).trans G) (fun h=>by
   rw[J]at h;have:=aJ.o.2.2.1.lt;have ah:=ba.o;rcases h with h|h|h
   .exact aJ.o.2.2.2.1 h.1
   .omega
   .omega)
  have cq:All64 (secsOf F O base m):=fun x hx=>by
   obtain⟨i,-,rfl⟩:=qzr.1 hx;exact rn Y.good _
  have dk:=wZ F O base m;have dm:=qqh (Eb (w:=E) (v:=.slice di m dj) (l:=secsOf F O base m) (by rw[dk];exact hsl.rd) cq oM oM cp);have ah:=ba.o;have bn:∀(j:Nat) (o:Obj),k<=j->j<k+4->N.heap[j]?=some o->E.heap[j]?=some o:=fun j o h1 h2 h=>(G.block j (zd h) (aR _ h1 (.inl h2))).trans h;have q1:=bn _ _ oM oM aT;have q2:=bn _ _ oM oM aK;have b2:=bn _ _ oM oM aU;have dn:=Y13 G hsl V Y H Z au a7 J b1 q1 q2 b2;generalize secsOf F O base m=l at*;clear aq aT aK aU J a7 am an b1 aj U ak G ab hsl V Y H Z av au cp cq co bM bn q1 q2 b2 ah
  gi_wp2_with fail
  go_wp2_with fail
  refine dm.o.mono ?_;rintro e D ⟨dE,rfl,aW,cr,ct⟩;obtain⟨G,hsl,V,Y,H,Z,au,a7,J,b1,q1,q2,b2⟩:=dn.o;have s:=qqb ct;have b3:=s.j4 q1;have aN:=s.j4 q2;have aw:=s.j4 b2;have bp:=s.j4 au;obtain⟨bN,bh,rfl⟩:=aW.rd.j6;have ah:=ba.o;have cu:k+8<=E.heap.size:=by have:=G.size;omega
  have ax:=aJ.o.2.1;have cv:∀(x y z:Value),∃ao,ao=(((D.setCell ⟨k+1,0,none⟩ x).setCell ⟨k+1+1,0,none⟩ y).setCell ⟨k+1+1+1,0,none⟩ z).putObj b0 (.deferred none)/\
    (((D.setCell ⟨k+1,0,none⟩ x).setCell ⟨k+1+1,0,none⟩ y).setCell ⟨k+1+1+1,0,none⟩ z).heap[b0]?=some (.deferred (some []))/\ao.cell? ⟨k+1,0,none⟩=some x/\ao.cell? ⟨k+1+1,0,none⟩=some y/\ao.cell? ⟨k+1+1+1,0,none⟩=some z/\Dv (fun j=>S j/\j<E.heap.size) ao b F O []/\Upd S w ao/\(∀u n bO,Sl D 155 4 u n bO->From E.heap.size u->Sl ao 155 4 u n bO):=by
   intro x y z;have bq:=zi D (k+1) 0 x;have br:=zi (D.setCell ⟨k+1,0,none⟩ x) (k+1+1) 0 y;have u3:=zi ((D.setCell ⟨k+1,0,none⟩ x).setCell ⟨k+1+1,0,none⟩ y) (k+1+1+1) 0 z;have cx:=zh b3 0 x;have aE:=zh ((bq.block _ (zd aN) oM).trans aN) 0 y;have cy:=zh ((br.block _ (by simpa using zd aw) oM).trans ((bq.block _ (zd aw) oM).trans aw)) 0 z;have aS:=(bq.block _ (zd bp) oM).trans bp;have X:=(br.block _ (zd aS) oM).trans aS;have aa:=(u3.block _ (zd X) oM).trans X;have bs:=xk (((D.setCell ⟨k+1,0,none⟩ x).setCell ⟨k+1+1,0,none⟩ y).setCell ⟨k+1+1+1,0,none⟩ z) b0 (.deferred none);have bP:Upd (fun j=>j=k+1\/j=k+1+1\/j=k+1+1+1\/j=b0) D _:=(((bq.mono (fun _ _ h=> .inl h)).trans (br.mono (fun _ _ h=> .inr (.inl h)))).trans (u3.mono (fun _ _ h=> .inr (.inr (.inl h))))).trans (bs.mono (fun _ _ h=> .inr (.inr (.inr h))));refine⟨_,rfl,aa,?_,?_,?_,?_,?_,?_⟩
   .have cz:=(br.block _ (zd cx) oM).trans cx;have cA:=(u3.block _ (zd cz) oM).trans cz;exact(bs.cellAt (zd cA) oM).trans (za cA 0)
   .have cB:=(u3.block _ (zd aE) oM).trans aE;exact(bs.cellAt (zd cB) oM).trans (za cB 0)
   .exact (bs.cellAt (zd cy) oM).trans (za cy 0)
   .have cC:=(Y.keep s (fun _ _ h=>h)).keep bP (fun j p h=>by
     obtain⟨cs,t,cD,W⟩:=Z j p;rcases h with h|h|h|h
     .exact U j oM oM (H j p)
     .exact U j oM oM (H j p)
     .exact U j oM oM (H j p)
     .rw [h,au]at W;cases W)
    exact cC.wide (fun j p=>by
     have:=H j p;obtain⟨cs,t,cD,W⟩:=Z j p;rw[b1]at this;refine⟨?_,zd W⟩;rcases this with h|h
     .exact h.1
     .exact ax j oM)
   .have dp:Upd (fun j=>L j\/j=k+1\/j=k+1+1\/j=k+1+1+1\/j=b0) N _:=((G.mono (fun _ _ h=> .inl h)).trans (s.mono fE)).trans (bP.mono (fun _ _ h=> .inr h));refine(a7.mono fE).new dp (fun i c3 A=>?_);rcases A with A|A|A|A|A
    .rw [J]at A;rcases A with A|A|A
     .exact A.1
     .omega
     .omega
    .omega
    .omega
    .omega
    .omega
   .intro u n bO h1 h2;exact h1.keep bP (fun g q h=>by
     have:=h2 g q;rcases h with h|h|h|h
     .omega
     .omega
     .omega
     .obtain ⟨cs,t,cD,W⟩:=h1.cellsAt q;rw[h,bp]at W;cases W)
  have ad:=Y4 cv aW cr cu;have dF:=zf b3 0;have dG:=zf aN 0;have dH:=zf aw 0;have cC:=za b3 0;have bE:=za aN 0;have dI:=za aw 0;have dJ:=zd aw;have dK:=Y3 b3 aN aw;clear cv aW cr cu G hsl V Y H Z au a7 J b1 q1 q2 b2 s b3 aN aw bp ah ax ct;have dq:w.heap.size<=E.heap.size:=by have:=ba.o;have:=ad.o.2.2.2;omega
  cases aO:readOk l with
  |false=>
   simp only[aO]at ad;rw[if_neg de]at ad⊢;have b4:=qqh aO;clear aO;go_wp2_with fail
   obtain⟨ao,bQ,aa,c1,c2,bR,dv,bS,sl⟩:=ad.o.1 (.int .i64 0) (.slice none 0 0) (.int .i64 14);refine⟨oe,.inl ⟨_,_,rfl,run_takeDeferred aa,?_⟩⟩;rw[<-bQ];refine⟨.tuple #[.int .i64 0,.slice none 0 0,.int .i64 14],by simp[results,results199,go_sem,c1,c2,bR],.slice none 0 0,by rw[b4.out];rfl,by rw[b4.out];exact Sl.nil _ _ _,From.nil _ _ _,dv.wide (fun j p=>⟨p.1,fun g q=>by cases q⟩),bS⟩
  |true=>
   simp only[aO]at ad⊢
   try simp only[if_true]
   have b4:=qqh aO;clear aO;go_wp2_with fail
   obtain⟨ao,bQ,aa,c1,c2,bR,dv,bS,sl⟩:=ad.o.1 (.int .i64 (readSeq l:Nat)) (.slice bN (readEs l).length bh) (.int .i64 0);refine⟨oe,.inl ⟨_,_,rfl,run_takeDeferred aa,?_⟩⟩;rw[<-bQ];refine⟨.tuple #[.int .i64 (readSeq l:Nat),.slice bN (readEs l).length bh,.int .i64 0],by simp[results,results199,go_sem,c1,c2,bR],.slice bN (readEs l).length bh,by rw[b4.out];rfl,by rw[b4.out];exact sl _ _ _ ad.o.2.1 ad.o.2.2.1,ad.o.2.2.1.mono dq,dv.wide (fun j p=>⟨p.1,fun g q=>by have:=ad.o.2.2.1 g q;omega⟩),bS⟩
end
def nwS(F:List Bk)(O:List (Nat×Bk))(base m:Nat):Nat->Bool×Nat×Nat×List Ent
 |0=>(false,0,0,[])
 |k+1=>if readOk (secsOf F O (base+k*m) m)&&(!(nwS F O base m k).1||decide ((nwS F O base m k).2.2.1<readSeq (secsOf F O (base+k*m) m)))then(true,k,readSeq (secsOf F O (base+k*m) m),readEs (secsOf F O (base+k*m) m))else nwS F O base m k
theorem Ej{F:List Bk}{O:List (Nat×Bk)}{base m:Nat}:∀{k:Nat},(nwS F O base m k).1=false->nwS F O base m k=(false,0,0,[])
 |0,_=>rfl
 |k+1,h=>by
  rw[nwS]at h⊢;split at h
  .cases h
  .next j=>rw[if_neg j];exact Ej h
theorem zdt{P:List Int}(h:Dv S w b F O P)(base m:Nat)(h1:1<=m)(h2:base+2*m<=F.length):
  Calls prog 129 #[.pointer (some ⟨b,0,none⟩),.int .i64 (base:Int),.int .i64 (m:Int),.int .i64 2] w fun e j=>e=.returned (.bool true)/\w=j:=by
 have k:=h.good.fl;have p:¬((base:Int)>(F.length:Int)):=oM;have q:(m:Int)<=((F.length:Int)-(base:Int)).tdiv 2:=by
  rw[Int.tdiv_eq_ediv_of_nonneg oM];omega
 have s:¬((m:Int)<1):=oM;have v:¬((base:Int)<0):=oM;have A:0<=((F.length:Int)-(base:Int)):=oM;have q1:decide ((F.length:Int)<(base:Int))=false:=by simp;omega
 go_enter func129,ntmps129
 go_wp2_with (first
  |(go_at_call 78;refine(qn h).mono ?_;rintro e j ⟨rfl,rfl⟩)
  |fail)
 go_ret
 refine⟨?_,rfl⟩;simp;omega
def NwOut(S:Nat->Prop)(w:World)(b:Nat)(F:List Bk)(O:List (Nat×Bk))(r:Bool×Nat×Nat×List Ent)(e:Ending)(w':World):Prop:=
 ∃v,e=.returned (.tuple #[.int .i64 (r.2.1:Nat),.int .i64 (r.2.2.1:Nat),v,.int .i64 (if r.1 then 0 else 14)])/\Sl w' 155 4 v r.2.2.2.length (r.2.2.2.flatMap entC)/\From w.heap.size v/\Dv (fun j=>S j/\∀g,v.ownBlock=some g->g≠j) w' b F O []/\Upd S w w'
theorem zaO(p:Dv S w b F O [])(a8:∀q,w.heap.size<=q->S q)(base m:Nat)(aa:1<=m)(ag:base+2*m<=F.length)(ab:Nib w)(ad:¬S 0):
  Calls prog 134 #[.pointer (some ⟨b,0,none⟩),.int .i64 (base:Int),.int .i64 (m:Int)] w (NwOut S w b F O (nwS F O base m 2)):=by
 have ap:=p.good.fl;have ah:=qqh (zdt p base m aa ag);have T:=Y4 p a8 ab ad;clear p a8 ab ad;go_enter func134,ntmps134
 go_wp2_with fail
 refine ah.o.mono ?_;rintro e aq ⟨rfl,rfl⟩;go_wp2_with fail
 go_loopg[6,7,8,10,22] 2 (fun gk ai aj Z ak am wr=>∃j:Nat,∃f H z L,j+gk=2/\am=.int .i64 (j:Int)/\(f,H,z,L)=nwS F O base m j/\ak=.bool f/\ai=.int .i64 (H:Nat)/\aj=.int .i64 (z:Nat)/\Sl wr 155 4 Z L.length (L.flatMap entC)/\From w.heap.size Z/\Dv (fun q=>S q/\∀g,Z.ownBlock=some g->g≠q) wr b F O []/\Upd S w wr)
 case atStart=>exact⟨0,false,0,0,[],oM,rfl,rfl,rfl,rfl,rfl,Sl.nil _ _ _,From.nil _ _ _,T.o.1.kI (fun q h1 h2=>⟨h1,fun g A=>by cases A⟩),uur _ _⟩
 case round=>
  obtain⟨j,f,H,z,L,U,rfl,M,rfl,rfl,rfl,hsl,D,p,k⟩:=hrel;have W:Nib wr:=T.o.2.2.1.keep k T.o.2.2.2;by_cases hlt:j<2
  .have an:(j:Int)<2:=oM;have ar:j*m<=1*m:=qXv m oM;have ao:∀g,u8.ownBlock=some g->g<wr.heap.size:=fun g A=>hsl.lt A;have a6:=qqh (zfp (S:=fun q=>S q/\∀g,u8.ownBlock=some g->g≠q) p (fun q s=>⟨T.o.2.1 q (by have:=k.size;omega),fun g A=>by have:=ao g A;omega⟩) (base+j*m) m aa oM W (fun h=>T.o.2.2.2 h.1));rw[show((base+j*m:Nat):Int)=(base:Int)+(j:Int)*(m:Int) by simp]at a6;have E:nwS F O base m (j+1)=if readOk (secsOf F O (base+j*m) m)&&(!f||decide (z<readSeq (secsOf F O (base+j*m) m)))then(true,j,readSeq (secsOf F O (base+j*m) m),readEs (secsOf F O (base+j*m) m))else(f,H,z,L):=by
    rw[nwS,<-M]
   have G:=Y6 hsl D p k U E;have au:(0:Int)<=(j:Int)*(m:Int):=by rw[<-Int.natCast_mul];omega
   have av:(base:Int)+(j:Int)*(m:Int)<=4096:=by rw[<-Int.natCast_mul];omega
   have aw:(j:Int)*(m:Int)<=4096:=by rw[<-Int.natCast_mul];omega
   clear hsl D p k W M E;go_wp2_with fail
   refine a6.o.mono ?_;rintro e ax ⟨ay,rfl,X,ae,Y,N⟩;generalize secsOf F O (base+j*m) m=l at*;clear a6;cases V:readOk l with
   |false=>
    have az:=qqh V;rw[V]at G X;clear V;go_wp2_with fail
    go_roundg (gk-1)
    case measure=>have:=G.o.2.2.2.2.1;omega
    case rel=>
     obtain⟨hsl,D,p,k,U,E⟩:=G.o;exact⟨j+1,f,H,z,L,oM,by go_num,by rw[E,if_neg oe],rfl,rfl,rfl,hsl.keep N (fun g A h=>h.2 g A rfl),D,Y.wide (fun q s=>s.1),k.trans (N.mono (fun _ _ h=>h.1))⟩
   |true=>
    simp only[V,if_true]at G X⊢;clear V;cases f with
    |false=>
     go_wp2_with fail
     go_roundg (gk-1)
     case measure=>have:=G.o.2.2.2.2.1;omega
     case rel=>
      obtain⟨hsl,D,p,k,U,E⟩:=G.o;exact⟨j+1,true,j,readSeq l,readEs l,oM,by go_num,by rw[E,if_pos oe],rfl,rfl,rfl,X,ae.mono k.size,Y.wide (fun q s=>⟨s.1.1,s.2⟩),k.trans (N.mono (fun _ _ h=>h.1))⟩
    |true=>
     by_cases J:z<readSeq l
     .have q1:(z:Int)<(readSeq l:Int):=oM;go_wp2_with fail
      go_roundg (gk-1)
      case measure=>have:=G.o.2.2.2.2.1;omega
      case rel=>
       obtain⟨hsl,D,p,k,U,E⟩:=G.o;exact⟨j+1,true,j,readSeq l,readEs l,oM,by go_num,by rw[E,if_pos (by simp[J])],rfl,rfl,rfl,X,ae.mono k.size,Y.wide (fun q s=>⟨s.1.1,s.2⟩),k.trans (N.mono (fun _ _ h=>h.1))⟩
     .have q1:¬(z:Int)<(readSeq l:Int):=oM;go_wp2_with fail
      go_roundg (gk-1)
      case measure=>have:=G.o.2.2.2.2.1;omega
      case rel=>
       obtain⟨hsl,D,p,k,U,E⟩:=G.o;exact⟨j+1,true,H,z,L,oM,by go_num,by rw[E,if_neg (by simp[J])],rfl,rfl,rfl,hsl.keep N (fun g A h=>h.2 g A rfl),D,Y.wide (fun q s=>s.1),k.trans (N.mono (fun _ _ h=>h.1))⟩
  .obtain rfl:j=2:=oM;have an:¬(((2:Nat):Int)<2):=de;have J:NwOut S w b F O (f,H,z,L) (.returned (.tuple #[.int .i64 (H:Nat),.int .i64 (z:Nat),u8,.int .i64 (if f then 0 else 14)])) wr:=⟨u8,rfl,hsl,D,p,k⟩
   rw[M]at J;cases f with
   |false=>
    have af:=Ej (by rw[<-M]);have J:NwOut S w b F O (nwS F O base m 2) (.returned (.tuple #[.int .i64 0,.int .i64 0,.slice none 0 0,.int .i64 14])) wr:=by
     rw[af];exact⟨.slice none 0 0,rfl,Sl.nil _ _ _,From.nil _ _ _,p.wide (fun q s=>⟨s.1,fun g A=>by cases A⟩),k⟩
    have a7:=qqh J;clear J hsl D p k W M af;go_wp2_with fail
    exact qYq (v:=.tuple #[.int .i64 0,.int .i64 0,.slice none 0 0,.int .i64 14]) (by simp[results,results134,go_sem]) rfl a7.o
   |true=>
    have a7:=qqh J;clear J hsl D p k W M;go_wp2_with fail
    exact qYq (v:=.tuple #[.int .i64 (H:Nat),.int .i64 (z:Nat),u8,.int .i64 0]) (by simp[results,results134,go_sem]) rfl a7.o
def Ent.In(e:Ent):Prop:=e.b<=4095/\e.s<=1023/\e.m<=4294967295
theorem Ud{b:Bk}(h:okP b=true):∀e∈pgEnts b,e.In:=by
 intro e A;have k:=Ty h;obtain⟨-,-,-,-,H⟩:=yF h;unfold mayP at k;rw[qxo,qxo]at k;obtain⟨i,D,rfl⟩:=qzr.1 A;have J:=qzt.1 D;have q:=k.2;unfold entsB at q;have:=qxv.1 q i (qzt.2 oM);unfold entB at this;have E:(natsI (numsP b)).getD 3 0=(pgMany b:Int):=zT _ _;rw[E,if_pos oM]at this;have G:(natsI (numsP b)).length=20:=by simp[natsI,numsP,zR,UV]
 have L:(rowI (natsI (numsP b)) i).length=4:=wo G oM;have p:=yg this (i:=0) de oM;have w1:=yg this (i:=1) de oM;have s:=yg this (i:=3) de oM;have e:∀j (v:j<(rowI (natsI (numsP b)) i).length),(rowI (natsI (numsP b)) i)[j]=((numsP b).getD (4+4*i+j) 0:Nat):=fun j v=>by
  rw[<-zT,<-xJ _ _ _ oM,qyg,qyk v];rfl
 rw[e]at p w1 s;simp only[bndE,qyt,qys]at p w1 s;unfold Ent.In qD;dsimp only;rw[qXn]at p;omega
theorem Ue{l:List Bk}(h:readOk l=true):(∀e∈readEs l,e.In)/\(readEs l).length<=4*l.length/\readSeq l<=1099511627776:=by
 unfold readOk at h;rw[qxo,qxo]at h;have A:=of_decide_eq_true h.2.1;have k:∀i<readOf l,okP (l.getD i zB)=true:=fun i p=>by
  have:=qxv.1 h.2.2 i (qzt.2 oM);unfold goesP at this;rw[if_neg oM,qxo]at this;exact this.1
 refine⟨fun e q=>?_,?_,(yF h.1).1⟩
 .obtain ⟨i,p,s⟩:=qzq.1 q;exact Ud (k i (qzt.1 p)) e s
 .have:∀j≤readOf l,(entsTo l j).length<=4*j:=by
   intro j
   induction j with
   |zero=>intro _;exact qXp _
   |succ j v=>
    intro D;have:=v oM;have E:=(yF (k j oM)).2.2.2.2;unfold entsTo at this⊢;rw[qXd,qye,qyz];simp only[qyf,List.flatMap_nil,qxx,pgEnts,qzc,List.length_range];simp only[pgEnts]at this;omega
  have:=this _ (qXp _);show(entsTo l (readOf l)).length<=_;omega
theorem zaP(F:List Bk)(O:List (Nat×Bk))(base m:Nat)(k:∀B,(secsOf F O B m).length=m):∀h,(∀e∈(nwS F O base m h).2.2.2,e.In)/\(nwS F O base m h).2.2.2.length<=4*m/\(nwS F O base m h).2.2.1<=1099511627776:=by
 intro h
 induction h with
 |zero=>exact⟨fun e j=>by simp[nwS]at j,by simp[nwS],by simp[nwS]⟩
 |succ h p=>
  rw[nwS];split
  .rename_i j
   rw[qxo]at j;obtain⟨h1,h2,q⟩:=Ue j.1;rw[k]at h2;exact⟨h1,h2,q⟩
  .exact p
theorem sQ(F:List Bk)(O:List (Nat×Bk))(base n:Nat):∀j,∀r∈scanTo F O base n j,rseq r<=1099511627776/\r.getD 3 0<=4095/\r.getD 4 0<=1023:=by
 intro j
 induction j with
 |zero=>intro r h;cases h
 |succ j q=>
  intro r h;rw[scanTo,qzm]at h;rcases h with h|h
  .exact q r h
  .unfold scL at h;split at h
   .rename_i k
    unfold JR at k;rw[qxo]at k;have p:=sK k.1;rw[qzu]at h;subst h;exact⟨p.2.1,p.2.2.2.2.1,p.2.2.2.2.2.1⟩
   .cases h
theorem zaQ(L:List (List Nat))(after:Nat):∀r∈(repS L after).d,r∈L:=by
 have:∀(L:List (List Nat)) (j:RepS),∀r∈(L.foldl repStep j).d,r∈L\/r∈j.d:=by
  intro L
  induction L with
  |nil=>intro j r h;exact .inr h
  |cons x L k=>
   intro j r h;rcases k _ r h with h|h
   .exact .inl (qzo _ h)
   .unfold repStep at h;split at h
    .rw [qzm,qzu]at h;rcases h with h|rfl
     .exact .inr h
     .exact .inl qzp
    .exact .inr h
 intro r h;rcases this L _ r h with h|h
 .exact h
 .cases h
def Ent.toI(e:Ent):EI:=⟨e.b,e.s,e.d,e.m⟩
theorem WG(L:List Ent):(L.map Ent.toI).flatMap EI.cs=L.flatMap entC:=by
 rw[List.flatMap_map];rfl
theorem Uf(L:List (List Nat)):(L.map natsI).flatMap dsR=L.flatMap recCs:=by
 rw[List.flatMap_map];rfl
theorem ZW(p:List Bk)(base:Nat)(B:List Bk):∀k j,(flushF p (ckO base k B))[j]?=if base<=j/\j<base+k/\j<p.length then some (B.getD (j-base) zB)else p[j]?
 |0,j=>by rw[if_neg oM];rfl
 |k+1,j=>by
  rw[SL,xS,qyp,ZW p base B k j,zI];show(if base+k=j then(if base+k<p.length then some (B.getD k zB)else none)else _)=_;by_cases h:base+k=j
  .subst h;rw[if_pos rfl];by_cases q:base+k<p.length
   .rw [if_pos q,if_pos oM,Nat.add_sub_cancel_left]
   .rw [if_neg q,if_neg oM,qyl oM]
  .rw [if_neg h];by_cases h1:base<=j/\j<base+k/\j<p.length
   .rw [if_pos h1,if_pos oM]
   .rw [if_neg h1,if_neg oM]
theorem TE(F:List Bk)(O:List (Nat×Bk))(base m i:Nat)(h:i<m):(secsOf F O base m).getD i zB=curB F O (base+i):=by
 unfold secsOf;rw[qyg,qyn,List.getElem?_range h];rfl
end Go.Proofs.YtpejdgiccaijfaaGreatDoor
