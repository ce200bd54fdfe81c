/- Writeback: Ste -/
import Derived.Test.YtpejdgiccaijfaaGreatDoorG27
import Derived.Test.YtpejdgiccaijfaaGreatDoorG28
set_option maxRecDepth 100000
set_option maxHeartbeats 2000000
namespace Go.Proofs.YtpejdgiccaijfaaGreatDoor
open Go Go.RowKit Tryz
section
open Go.Shelf
attribute [local go_sem] qYb
def CaS.wstep(n:CaN)(a:CaS)(m:Int):CaS×Nat×Int:=if m<1 then(a,0,1)else a.step n m.toNat
section
variable{own:Nat->Nat}{w w':World}{c:Nat}{n:CaN}{p:CaP}{a:CaS}{N:Nat}
theorem xY{j:Nat->Nat}{W:World}{b:CaS}(q:CaAt j W c n p b)(d:Did own j w W){D:Nat}(A:w.heap.size<=D)(s:j D=0)(h:CaAt own w c n p a)(o:Obj):CaAt j (W.putObj D o) c n p b/\Did own j w (W.putObj D o):=by
 have E:=h.nib.lt;have F:=h.tur.lt;refine⟨q.ky (xk W D o) (fun k e=>by subst e;exact⟨s,oM,oM⟩),⟨d.upd.new (xk W D o) (fun i G e=>oM),d.old,d.new,fun k H=>d.far k (by have:=(xk W D o).size;omega)⟩⟩
theorem Zcg32{P:Prop}(h:P:=by
  have h1:=HH.o.1.new E.o.2.2.2.2;have aa:∀D,q+2<=D->own D=0:=fun D V=>HH.o.1.far D (by have:=HA.o;omega);have bT:=HH.o.1.nib.lt;have bU:=HH.o.1.tur.lt;have bV:=HA.o;have W:=h1.ky (vW A) (fun D V=>⟨aa D V,oM,oM⟩);have b1:=E.o.2.2.2.1;have ab:Did own own w H:=⟨(HH.o.1.ko E.o.2.2.2.2).upd.new (vW A) (fun i bL bN=>oM),fun _ _=>rfl,fun D V=>by rw[HH.o.1.far D V];decide,fun D V=>W.far D V⟩
  have X:=(A.block q oM).trans E.o.2.1;have ad:own q=0:=HH.o.1.far q oM;have Q:ListAt own H (q+2) v j:=⟨ao,aa _ (qXp _),Sl.of_own O,fun g aI=>by
   obtain⟨-,⟨rfl,-⟩|⟨cW,cX,cY,rfl,bW,-,-⟩⟩:=O
   .cases aI
   .cases aI;exact aa _ bW⟩
  have ae:own bb=0:=aa bb (by have:=HW2.o.2.2.2.1;omega);have af:∀aJ∈j,aJ<n.bl:=fun aJ bc=>by
   rw[aq]at bc;have:=(wH.1 (List.mem_of_mem_take bc)).1
   rwa[HH.o.1.pl]at this
  have Y:j.length<=n.bl:=by
   have F:=wI a.ps;rw[HH.o.1.pl]at F;rw[aq,qzg];omega
  have b:=bG.o;unfold CaS.step at b;rw[<-aq]at b;have ap:=HH.o.1.ok.b2;have bd:=za X 0;simp at bd;obtain⟨cr,ct,rfl⟩:=Q.sl.rd.j6;have be:=za Q.box 0;simp at be;have bf:=qqh (sP W);have a8:=Y10 W ab X ad Q ae U af Y b;clear h1 aa bT bU bV W b1 ab X ad Q ae af Y b U ao O A ap aq;go_wp2_with fail
  refine bf.out.mono ?_;rintro e ar ⟨rfl,bX,au,bg⟩;obtain⟨W,ab,X,ad,Q,ae,U,af,Y,b⟩:=a8.o;obtain⟨bh,av⟩:=qqe (ar.alloc (.cells #[ptr p.back] 38));have aK:=qqu av;obtain⟨gb,aL⟩:=qqe (ar.heap.size);have aw:bh.heap[gb]?=some (.cells #[ptr p.back] 38 (0,0)):=by rw[av,aL];exact zc ar _ rfl
  have aM:bX gb=0:=au.far _ oM;have h2:=au.new aK;have ag:=bg.trans (au.ko aK);obtain⟨ax,aN⟩:=ag.still X ad;obtain⟨bi,bj⟩:=ag.still U ae;have ay:=Q.did ag;have aO:=za ax 0;have aP:=za ay.box 0;have aQ:=za aw 0;simp at aO aP aQ;have aY:=HH.o.2.2.1;have az:j.length*(n.pa+1)+j.length<=n.bl*(n.pa+2):=by
   have cZ:j.length*(n.pa+1)+j.length=j.length*(n.pa+2):=(Nat.mul_succ j.length (n.pa+1)).symm;have d0:j.length*(n.pa+2)<=n.bl*(n.pa+2):=qXv _ Y;omega
  have ap:=HH.o.1.ok.b2;have bn:=qqh (WR h2 HH.o.2.1 oM af oM ax aN aw aM ay);have H2:=Y11 h2 (ab.trans ag) bi bj ay az Y b (And.intro ax aN) aw aM;have bp:=Y2 av aL;clear au bg W ab X ad Q ae U af Y b aK av aw aM h2 ag ax aN bi bj ay aY az ap bf a8 aL bd be;go_wp2_with fail
  rw[show ar.alloc (.cells #[.pointer (some ⟨p.back,0,none⟩)] 38)=bh from bp.o.1.symm,<-bp.o.2];have bq:∀B,B=CaS.backs n j a->R=(if B.2≠0 then(B.1,0,B.2)else if j=[]then(B.1,0,0)else if(flushR B.1.bF B.1.bO B.1.bP).cd≠0 then(B.1.fb,0,(flushR B.1.bF B.1.bO B.1.bP).cd)else CaS.cleans n j 0 B.1.fb):=fun B e=>by
   have bY:=H2.o.2.2.2.2.2.2.2.1;rw[bY,e];rfl
  obtain⟨aA,br,bs,bt,-⟩:=CaS.backs_fit (n:=n) j HH.o.2.1;have aB:(CaS.backs n j a).1.Tie n none:=by
   have aH:=HH.o.2.2.2;show TieL n.bl n.sl (CaS.backs n j a).1.ps (CaS.backs n j a).1.st (CaS.backs n j a).1.K none;rw[br,bs,bt];exact aH
  refine bn.o.mono ?_;obtain⟨B,A⟩:=qqe (CaS.backs n j a);have aR:=bq B A;clear bq;rw[<-A]at aA aB⊢;clear br bs bt bn;obtain⟨Z,bZ⟩:=B;simp only at aR aA aB⊢;replace A:=qqh A;have a6:=Y3 aR aA aB;clear aR aA aB;rintro e bu ⟨bv,F,k,⟨c0,rfl⟩|⟨aS,i,rfl⟩⟩
  rotate_left
  .have c3:(bZ==0)=false:=by simpa using aS
   have b:=a6.o.1;rw[if_pos aS]at b;obtain⟨bx,bz⟩:=k.still H2.o.2.2.1 H2.o.2.2.2.1;have s:=Y2 bx (xY F (H2.o.2.1.trans k) oo bz HH.o.1 (.deferred none));have J:=qqh b;clear bx bz F k aO aP aQ aS b;go_wp2_with fail
   rw[qxr];refine⟨oe,.inl ⟨_,_,rfl,run_takeDeferred s.o.1,?_⟩⟩;exact⟨_,results_tmp2 rfl _ _ _,by rw[J.o];rfl,bv,by rw[J.o];exact s.o.2.1,s.o.2.2⟩
  subst c0;have b:=a6.o.1;rw[if_neg (fun e=>e rfl)]at b;have G:=H2.o.2.2.2.2.1.did k;have aC:=za (k.still H2.o.2.2.2.2.2.2.2.2.1.1 H2.o.2.2.2.2.2.2.2.2.1.2).1 0;have aD:=za G.box 0;have aE:=za (k.still H2.o.2.2.2.2.2.2.2.2.2.1 H2.o.2.2.2.2.2.2.2.2.2.2).1 0;simp at aC aD aE;have bA:=qqh b;clear b aO aP aQ;by_cases aF:j.length=0
  .obtain rfl:j=[]:=qyc aF;have b:=bA.o;rw[if_pos rfl]at b;have a7:=qqh (ug F a6.o.2.1 (L:=[]) (by simp;have:=HH.o.2.2.1;omega) a6.o.2.2 oe G);replace a7:Hid (Calls prog 257 #[.func (.func 259) #[ptr c] #[],ptr (q+2)] bu (zt bv bu c n p Z (.tuple #[.int .i64 0,.int .i64 0]))):=a7;have aT:=Y2 k b;clear F k b G aF;go_wp2_with fail
   refine a7.o.mono ?_;rintro e c4 ⟨rfl,aU,h5,ah⟩;obtain⟨k,b⟩:=aT.o;have S:=k.trans ah;obtain⟨ai,aj⟩:=S.still H2.o.2.2.1 H2.o.2.2.2.1;have s:=Y2 ai (xY h5 (H2.o.2.1.trans S) oo aj HH.o.1 (.deferred none));have J:=qqh b;clear ai aj h5 ah k S aC aD aE b;go_wp2_with fail
   rw[qxr];refine⟨oe,.inl ⟨_,_,rfl,run_takeDeferred s.o.1,?_⟩⟩;exact⟨_,results_tmp2 rfl _ _ _,by rw[J.o];rfl,aU,by rw[J.o];exact s.o.2.1,s.o.2.2⟩
  have b:=bA.o;rw[if_neg (fun e=>aF ji)]at b;have d1:(0:Int)<(j.length:Int):=oM;have c5:=qqh (xi F);have aT:=Y3 k G b;clear F k b G aF;go_wp2_with fail
  refine c5.out.mono ?_;rintro e c6 ⟨rfl,bB,M,ak⟩;replace M:CaAt bB c6 c n p Z.fb:=M;obtain⟨k,G,b⟩:=aT.o;have aV:=ak.still (k.still H2.o.2.2.2.2.2.2.2.2.1.1 H2.o.2.2.2.2.2.2.2.2.1.2).1 (k.still H2.o.2.2.2.2.2.2.2.2.1.1 H2.o.2.2.2.2.2.2.2.2.1.2).2;have aW:=za aV.1 0;have aX:=G.did ak;have am:=k.trans ak;simp at aW;have c7:=qqh (a6.o.2.1.fb);have c8:=qqh (show Z.fb.Tie n none from a6.o.2.2);generalize (flushR Z.bF Z.bO Z.bP).cd=bC at*;by_cases aG:bC=0
  rotate_left
  .have c3:(bC==0)=false:=by simpa using aG
   rw[if_pos aG]at b;obtain⟨bD,bE⟩:=am.still H2.o.2.2.1 H2.o.2.2.2.1;have s:=Y2 bD (xY M (H2.o.2.1.trans am) oo bE HH.o.1 (.deferred none));have J:=qqh b;clear bD bE M ak k am aC aD aE aW aG b G aX aV;go_wp2_with fail
   rw[qxr];refine⟨oe,.inl ⟨_,_,rfl,run_takeDeferred s.o.1,?_⟩⟩;exact⟨_,results_tmp2 rfl _ _ _,by rw[J.o];rfl,bB,by rw[J.o];exact s.o.2.1,s.o.2.2⟩
  subst aG;rw[if_neg (fun e=>e rfl)]at b;have az:=H2.o.2.2.2.2.2.1;have a7:=qqh (ug M c7.out (L:=j) (by have:=HH.o.2.2.1;omega) c8.out jh aX);rw[<-b]at a7;have c9:=qqh am;clear M ak k am aC aD aE b G aX az aV;go_wp2_with fail
  refine a7.o.mono ?_;rintro e c4 ⟨rfl,aU,h5,ah⟩;have S:=c9.o.trans ah;obtain⟨ai,aj⟩:=S.still H2.o.2.2.1 H2.o.2.2.2.1;have s:=Y2 ai (xY h5 (H2.o.2.1.trans S) oo aj HH.o.1 (.deferred none));clear ai aj h5 ah S aW;go_wp2_with fail
  rw[qxr];refine⟨oe,.inl ⟨_,_,rfl,run_takeDeferred s.o.1,?_⟩⟩;exact⟨_,results_tmp2 rfl _ _ _,rfl,aU,s.o.2.1,s.o.2.2⟩):P:=h
theorem TP(h:CaAt own w c n p a)(cb:a.Fit N)(aY:N+n.bl*(n.pa+2)<=50000)(aH:a.Tie n none)(m:Int):
  Calls prog 188 #[ptr c,.int .i64 m] w (zt own w c n p (a.wstep n m).1 (.tuple #[.int .i64 ((a.wstep n m).2.1:Int),.int .i64 (a.wstep n m).2.2])):=by
 obtain⟨q,aZ⟩:=qqe (w.heap.size);obtain⟨w1,b0⟩:=qqe ((w.alloc (.cells #[ptr c] 98)).alloc (.cells #[.int .i64 m] 3));have cc:Upd (fun _=>False) w w1:=by rw[b0];exact((uur _ w).alloc _).alloc _
 have bJ:w1.heap[q]?=some (.cells #[ptr c] 98 (0,0)):=by rw[b0,aZ];exact(qxk _ _ _ oe).trans (zc w _ rfl)
 have gm:w1.heap[q+1]?=some (.cells #[.int .i64 m] 3 (0,0)):=by rw[b0,aZ];exact zc _ _ oe
 have b1:w1.heap.size=q+2:=by rw[b0,aZ];simp
 have cA:=za gm 0;have cd:=za bJ 0;simp at cA cd;have E:=Y5 b0 bJ gm b1 cc;have HH:=Y4 h cb aY aH;clear b0 bJ gm b1 cc h cb aY aH;obtain⟨R,b3⟩:=qqe (a.wstep n m);rw[<-b3];unfold CaS.wstep at b3;refine(callsIn_wide (n:=4)).1 ?_;refine callsIn_of_wp_marks func188 rfl trivial ?_ rfl;simp only[ntmps188,qXi,qza,qzd,Nat.reduceAdd,Nat.reduceSub,qxi,qxj,qXc,qxy,qzv,qxz];refine wpIn_wide.2 ?_;go_wp2_with fail
 rw[<-E.o.1,<-aZ];have HA:=qqh aZ;clear aZ;refine wp_scope_straight ?_;by_cases b4:m<1
 .have b:=b3;rw[if_pos b4]at b;have cB:decide (m<1)=true:=by simpa using b4
  have bG:=qqh b;clear b b3 b4;go_wp2_with fail
  rw[qxr];have b:=bG.o;subst b;exact⟨_,results_tmp2 rfl _ _ _,rfl,own,HH.o.1.new E.o.2.2.2.2,HH.o.1.ko E.o.2.2.2.2⟩
 .have b:=b3;rw[if_neg b4]at b;have cB:decide (m<1)=false:=by simpa using b4
  obtain⟨an,rfl⟩:=Int.eq_ofNat_of_zero_le (show 0<=m by omega);rw[qxt]at b;have bG:=qqh b;have d2:Hid (1<=an):=(by omega:1<=an)
  clear b b3 b4;obtain⟨b7,b8⟩:=qqe (w1.alloc (.cells #[.slice none 0 0] 87));have bH:=qqu b8;have ce:b7.heap[q+2]?=some (.cells #[.slice none 0 0] 87 (0,0)):=by rw[b8];exact zc w1 _ E.o.2.2.2.1.symm
  have cC:=bH.j3 cd id;have bK:b7.heap.size=q+3:=by rw[b8];simp;exact E.o.2.2.2.1
  have h2:=(HH.o.1.new E.o.2.2.2.2).new bH;have cf:=qqh (WO (w:=b7) (c:=c) trivial);obtain⟨b9,ba⟩:=qqe (b7.alloc (.cells #[ptr c] 98));have bI:=qqu ba;have ch:b9.heap.size=q+4:=by rw[ba];simp;omega
  have ci:b9.heap[q+3]?=some (.cells #[ptr c] 98 (0,0)):=by rw[ba];exact zc b7 _ bK.symm
  have cj:=bI.j4 ce;have d3:(vis (spanL a.ps 0 n.bl) 0).length<=4096:=by
   have h1:=qc (spanL a.ps 0 n.bl) 0 (spanL a.ps 0 n.bl).length;have F:=HH.o.1.ok.b2;have M:(spanL a.ps 0 n.bl).length<=n.bl:=by simp[spanL];omega
   exact qXr h1 oM
  have cD:=qqh (Ex (h2.new bI) (q+3) (q+2) (b9.heap.size+1) ci oM oM oM (4-1));obtain⟨cE,bL,cF,cG,cH⟩:=qYt Tb;have cI:boxesN (q+2) [] b9:=⟨_,cj,World.ownsRow_nil _ _ _ _⟩
  have cl:Below (q+2) w1 b9:=by
   rw[<-E.o.2.2.2.1];exact zj (zj (qxl _ w1) bH (qXp _) (fun aJ h=>h.elim)) bI (qXp _) (fun aJ h=>h.elim)
  have HW2:=Y5 b8 ba bK ch cl;have d4:=qqf;clear b8 bH ce bK h2 bI ch ci cj cl ba;go_wp2_with fail
  refine wp_label ?_;rw[<-HW2.o.1,E.o.2.2.2.1];go_wp2_with fail
  refine cf.o.mono ?_;rintro e cJ ⟨rfl,co⟩;rw[<-HW2.o.2.1]at co;subst co;rw[HW2.o.2.2.1];clear cf cC;go_wp2_with fail
  refine(wpIn_wide (n:=4)).1 ?_
  refine' qw (n:=4) (gf:=320) (lb:= #[.pointer (some ⟨q+3,0,none⟩)]) rfl (enters_of func320 kR rfl)
   cD.o (fun h g=>h.trans g) (fun cK o d5 _ _=>Ew.put cK _) (qxl _ _) (fun _=>rfl)
   (fun T H=>(boxesN (q+2) T H/\Below (q+2) w1 H)/\T.length<=an)
   (fun bM T H=>bM=.exit 0/\∃b5 x,T=b5++[x]/\b5.length=an/\boxesN (q+2) b5 H/\Below (q+2) w1 H)
   (OwnFrom.and (OwnFrom.and (Own.from (uH (q+2)) _) (ownFrom_below (by rw[E.o.2.2.2.1];exact qXp _) (by rw[HW2.o.2.2.2.1];omega))) (ownFrom_pure _ (fun(T:List Nat)=>T.length<=an)))
   (fun bM T H cp cq bN aI b=>by
    obtain⟨h1,b5,x,h2,F,M,h5⟩:=bN;exact⟨h1,b5,x,h2,F,(Own.from (uH (q+2)) _) b5 H cp cq M aI b,(ownFrom_below (β:=Unit) (n₀:=q+2) (by rw[E.o.2.2.2.1];exact qXp _) (by rw[HW2.o.2.2.2.1];omega)) () H cp cq h5 aI b⟩)
   ⟨⟨cI,HW2.o.2.2.2.2⟩,qXz _⟩
   (_:Nat->Act)
   ?assign ?body ?done ?stop
  case assign=>
   rintro cL x H K U
   gi_wp2
   exact U
  case body=>
   rintro cL T x H ⟨⟨⟨v,ao,O⟩,A⟩,b6⟩ hlt;have cM:q+2<=H.heap.size:=by have h1:=A.size;have h2:=E.o.2.2.2.1;omega
   have d6:=ao.cell;have bQ:=(A.block (q+1) oM).trans E.o.2.2.1;have cm:=za bQ 0;simp at cm;obtain⟨cr,ct,rfl⟩:=(Sl.of_own O).rd.j6;by_cases hx:T.length=an
   .have q1:((T.length:Int)==(an:Int))=true:=by simp[hx]
    have a8:=Y4 ao O A hx;clear ao O A hx bQ b6
    gi_wp2
    exact⟨KeepsFrom.refl _ _,uur _ _,rfl,T,x,rfl,a8.o.2.2.2,⟨_,a8.o.1,a8.o.2.1⟩,a8.o.2.2.1⟩
   .have q1:((T.length:Int)==(an:Int))=false:=by simp;omega
    have a8:=Y2 hx b6;clear hx b6 bQ
    gi_wp2_with (gi_at_builtin;refine wpListIn_append_own_at _ rfl _ _ 87 rfl (q+2) 3 cE (.int .i64 0) 1 8 underlying87 bL cF cG cH rfl de _ _ _ rfl (O.alloc _) ⟨H.heap.size,0,none⟩ 1 1 [.int .i64 (x:Int)] rfl rfl (cell_one_new _ _ _) oK oj oM og ?_;intro d7 d8 cu cv _ d9;obtain⟨cN,cO,rfl⟩:=ownsRow_succ cu;obtain⟨cx,cP,cQ,cR,ap⟩:=ao.appended de O cM (qXp _) cu cv;have cT:=sR (M1:=cJ.heap.size+1) (v':=.slice (some ⟨cN,0,none⟩) (T.length+1) cO) O cv;have da:=cx.cell;have db:=cx.frozen)
    exact⟨cR.from _,cT,⟨⟨_,cP,by simpa[ints]using cQ⟩,A.trans ap⟩,by have:=a8.o;simp;omega⟩
  case done=>
   rintro bb cU H cV bR ⟨⟨⟨v,ao,O⟩,A⟩,b6⟩ U;obtain⟨j,bS⟩:=qqe (cU);have aq:j=(dirtL a.ps).take an:=by rw[bS,bR,qXk (by rw[<-bR];exact b6)]
   rw[<-bS]at O;clear bS bR b6;exact Zcg32
  case stop=>
   rintro bb bM T H cV cy ⟨rfl,j,x,rfl,cz,⟨v,ao,O⟩,A⟩ U;have aq:j=(dirtL a.ps).take an:=by
    obtain⟨t,aH⟩:=cy;rw[<-aH,qxw,List.take_left' cz]
   clear cy cz
   gi_wp2_with fail
   exact Zcg32
end
end
def rightP(hi lo ba sl:Int):Prop:=0<=lo/\lo<=hi/\hi<=sl/\1<=ba/\ba<=64
instance(hi lo ba sl:Int):Decidable (rightP hi lo ba sl):=by unfold rightP;exact inferInstance
def chkP(hi lo ba sl:Int):Int:=if rightP hi lo ba sl then 0 else 1
abbrev zfB(hi lo ba:Int):Value:=.agg #[.int .i64 hi,.int .i64 lo,.int .i64 ba]
theorem WT(b h j sl:Int)(w:World):Calls prog 56 #[zfB b h j,.int .i64 sl] w fun e w'=>e=.returned (.int .i64 (chkP b h j sl))/\Below w.heap.size w w':=by
 obtain⟨w1,q⟩:=qqe (w.alloc (.cells #[.int .i64 b,.int .i64 h,.int .i64 j] 46));have s:=qqg q;have D:Below w.heap.size w w1:=by rw[q];exact(qxl _ w).alloc (qXp _) _
 have E:=za s 0;have F:=za s 1;have G:=za s 2;simp at E F G;have A:=Y2 q D;clear q s D;unfold chkP;by_cases k:rightP b h j sl
 .rw [if_pos k];obtain⟨H,J,L,M,O⟩:=k;go_enter func56,ntmps56
  go_upto_region 1 with fail
  rw[<-A.o.1];go_wp2
  go_ret
  exact⟨rfl,A.o.2⟩
 .rw [if_neg k];have P:h<0\/b<h\/sl<b\/j<1\/64<j:=by unfold rightP at k;omega
  clear k;go_enter func56,ntmps56
  go_upto_region 1 with fail
  rw[<-A.o.1];go_wp2
  all_goals
   go_ret
   exact⟨rfl,A.o.2⟩
def CaS.tick(n:CaN)(a:CaS)(hi lo ba:Int):CaS×Nat×Int:=
 if chkP hi lo ba n.sl≠0 then(a,0,chkP hi lo ba n.sl)else if((dirtL a.ps).length:Int)<=hi then(a,0,0)else a.wstep n (min (((dirtL a.ps).length:Int)-lo) ba)
section
variable{own:Nat->Nat}{w:World}{c:Nat}{n:CaN}{p:CaP}{a:CaS}{N:Nat}
theorem Zcg321{P:Prop}(h:P:=by
  go_wp2_with fail
  refine s.out.mono ?_;rintro e aO ⟨rfl,U,D,E⟩;have F:=Y2 D (Q.o.2.trans E);clear D E ab ad ae q1 s;go_wp2
  go_ret2
  exact⟨rfl,U,F.o.1,F.o.2⟩):P:=h
theorem zbj(h:CaAt own w c n p a)(aq:a.Fit N)(ar:N+n.bl*(n.pa+2)<=50000)(au:a.Tie n none)(k j q:Int):
  Calls prog 115 #[ptr c,zfB k j q] w (zt own w c n p (a.tick n k j q).1 (.tuple #[.int .i64 ((a.tick n k j q).2.1:Int),.int .i64 (a.tick n k j q).2.2])):=by
 obtain⟨w1,V⟩:=qqe (w.alloc (.cells #[.int .i64 k,.int .i64 j,.int .i64 q] 46));have W:=qqg V;have af:=qqu V;have X:=(uur (fun _=>False) w1).drew;have ag:=(h.new af).new X;have av:=h.ko (af.trans X);have Y:=zg W;obtain⟨m,ah⟩:=qqe (w.heap.size);rw[<-ah]at W Y;have aw:=underlying46;have ax:(prog.info? 46).map (·.size)=some 3:=kR;have aP:=tK (n.id:Int) (n.bl:Int) (n.sl:Int) (n.jo:Int) (n.pa:Int) (n.lo:Int) (n.ba:Int);have ay:=qqh (show Calls prog 57 #[ptr c] w1.drew fun e w'=>e=.returned (.agg #[.int .i64 n.id,.int .i64 n.bl,.int .i64 n.sl,.int .i64 n.jo,.int .i64 n.pa,.int .i64 n.lo,.int .i64 n.ba])/\Below w1.drew.heap.size w1.drew w' from wJ ag);have G:=Y6 ag av (X.j4 W) aq ar au;obtain⟨R,L⟩:=qqe (a.tick n k j q);rw[<-L];unfold CaS.tick at L;have az:=Y3 h.ok.s2 h.ok.b2 h.pl;have aA:=Y2 V ah;obtain⟨aB,ai⟩:=qqe (chkP k j q n.sl);rw[<-ai]at L;have Z:=Y2 L ai;clear h aq ar au V af X ag av W L ah ai;go_enter func115,ntmps115
 go_upto_region 3 with fail
 rw[<-aA.o.1,<-aA.o.2];refine qZc (S:=fun aQ=>aQ.rangeAt m 0 [.int .i64 k,.int .i64 j,.int .i64 q]) kR (by(simp only[qYk]);exact Y) (fun aj=>?_);refine Wl.l 0 (fun w h=>h) aw ax aj ?_;refine Wl.i [1] (Wl.t aj (Wl.o ?_));refine Wl.r 2 (fun K A=>?_);go_simp
 refine ay.o.mono ?_;rintro e aC ⟨rfl,aD⟩;have M:Upd (fun _=>False) w1.drew aC:=uuo aD;have ak:=M.range (show w1.drew.rangeAt m 0 _ by rw[qYk];exact Y) id;have am:=qqh (WT k j q (n.sl:Int) aC);rw[<-Z.o.2]at am;have a6:=Y3 (G.o.1.new M) (G.o.2.1.trans (G.o.1.ko M)) (M.j4 G.o.2.2.1);clear aD M;refine A.o _ _ (ak) (fun aE=>?_);clear A K;refine Wl.i [3] (Wl.t aE (Wl.o ?_));refine Wl.r 4 (fun K A=>?_);go_simp
 refine am.o.mono ?_;rintro e b1 ⟨rfl,aF⟩;have O:=qqb aF;have aG:=O.range ak id;have H:=Y3 (a6.o.1.new O) (a6.o.2.1.trans (a6.o.1.ko O)) (O.j4 a6.o.2.2);clear aF O;refine A.o _ _ (aG) (fun aH=>?_);clear A K;refine Wl.r 5 (fun K A=>?_);go_simp
 refine A.o _ _ (aH) (fun aR=>?_);clear A K;refine Wl.d ?_;clear aj aE aH aR Y ak aG ay am aP aw ax;by_cases a7:aB=0
 rotate_left
 .have aI:(aB==0)=false:=by simpa using a7
  have b:=Z.o.1;rw[if_pos a7]at b;have an:=qqh b;clear b a7;go_wp2
  go_ret2
  rw[an.o];exact⟨rfl,own,H.o.1,H.o.2.1⟩
 subst a7;have aJ:rightP k j q n.sl:=by
  have:=Z.o.2;unfold chkP at this;split at this
  .assumption
  .cases this
 have b:=Z.o.1;rw[if_neg (fun e=>e rfl)]at b;have aK:=qqh b;have aS:=qqh aJ;clear b aJ;have aL:=qqh (WQ H.o.1);go_wp2_with fail
 refine aL.out.mono ?_;rintro e b2 ⟨v,rfl,ao,aT,aM⟩;have a8:=qqb aM;have ap:=H.o.1.new a8;have aa:=a8.j4 H.o.2.2;have ab:=za aa 0;have ad:=za aa 1;have ae:=za aa 2;simp at ab ad ae;rw[qzc]at ao;obtain⟨b3,b4,rfl⟩:=ao.rd.j6;have s:=qqh (TP ap G.o.2.2.2.1 G.o.2.2.2.2.1 G.o.2.2.2.2.2 (min (((dirtL a.ps).length:Int)-j) q));have Q:=Y2 ap (H.o.2.1.trans (H.o.1.ko a8));have aN:=wI a.ps;rw[az.out.2.2]at aN;obtain⟨aU,aV,-⟩:=az.out;generalize (dirtL a.ps).length=len at*;clear ao aT aM a8 ap aa aL;by_cases J:(len:Int)<=k
 .have aI:decide ((len:Int)<=k)=true:=by simpa using J
  have b:=aK.o;rw[if_pos J]at b;have an:=qqh b;clear b J;go_wp2
  go_ret2
  rw[an.o];exact⟨rfl,own,Q.o.1,Q.o.2⟩
 .have aI:decide ((len:Int)<=k)=false:=by simpa using J
  have b:=aK.o;rw[if_neg J]at b;rw[<-b]at s;obtain⟨aW,aX,aY,aZ,b0⟩:=aS.o;have q1:IntKind.i64.wrap ((len:Int)-j)=(len:Int)-j:=qxu _ oM;have b5:=qqh J;clear b J aW aX aY aZ b0 aN aU aV;rcases Int.lt_trichotomy ((len:Int)-j) q with T|T|T
  .rw [Int.min_eq_left (Int.le_of_lt T)]at s;exact Zcg321
  .subst T;rw[Int.min_self]at s;exact Zcg321
  .rw [Int.min_eq_right (Int.le_of_lt T)]at s;exact Zcg321
end
section
variable{n:CaN}{a:CaS}{N:Nat}
structure CaS.Go(n:CaN)(a:CaS)(N:Nat):Prop where
 fit:a.Fit N
 nx:1<=a.next
 tie:a.Tie n none
 pl:a.ps.length=n.bl
theorem CaS.Go.mono{M:Nat}(b:a.Go n N)(h:N<=M):a.Go n M:=⟨b.fit.mono h,b.nx,b.tie,b.pl⟩
theorem CaS.stepL_go(h:a.Go n N){L:List Nat}(q:L.length<=n.bl):(CaS.stepL n L a).1.Go n (N+n.bl*(n.pa+2)):=by
 obtain⟨j,s,A,D,f5⟩:=CaS.backs_fit (n:=n) L h.fit;have b:(CaS.backs n L a).1.Tie n none:=by
  show TieL n.bl n.sl (CaS.backs n L a).1.ps (CaS.backs n L a).1.st (CaS.backs n L a).1.K none;rw[s,A,D];exact h.tie
 have hx:1<=(CaS.backs n L a).1.next:=by rw[f5];exact h.nx
 have G:L.length*(n.pa+1)+L.length<=n.bl*(n.pa+2):=by
  have H:L.length*(n.pa+1)+L.length=L.length*(n.pa+2):=(Nat.mul_succ L.length (n.pa+1)).symm;have J:L.length*(n.pa+2)<=n.bl*(n.pa+2):=qXv _ q;omega
 unfold CaS.stepL;generalize CaS.backs n L a=B at*;split
 .exact ⟨j.mono oM,hx,b,b.hpl⟩
 split
 .exact ⟨j.mono oM,hx,b,b.hpl⟩
 split
 .exact ⟨j.fb.mono oM,hx,b,b.hpl⟩
 .obtain ⟨E,F,k⟩:=CaS.cleans_fit (n:=n) L 0 (a:=B.1.fb) j.fb hx b;exact⟨E.mono oM,F,k,k.hpl⟩
theorem CaS.wstep_go(h:a.Go n N)(m:Int):(a.wstep n m).1.Go n (N+n.bl*(n.pa+2)):=by
 unfold CaS.wstep;split
 .exact h.mono oM
 .refine CaS.stepL_go h ?_;have h1:=wI a.ps;rw[h.pl]at h1;rw[qzg];omega
end
structure Inv15(n:CaN)(a:CaS)(v:Nat->Bk)(N:Nat):Prop where
 fit:a.Fit N
 tie:a.Tie n none
 nop:a.NoP
 val:a.Val n v
section
variable{n:CaN}{a:CaS}{v:Nat->Bk}{N:Nat}
theorem Inv15.mono{M:Nat}(b:Inv15 n a v N)(h:N<=M):Inv15 n a v M:={b with fit:=b.fit.mono h}
theorem Inv15.kG(h:Inv15 n a v N)(s:a.Jg n)(h1:1<=a.next)(j:4<=n.jo)(k:Int)(x:Bk)(b:Int):
  ((0<=k/\k<(n.bl:Int))/\(0<=b/\b<3)->(a.kG n k x b).2=0/\Inv15 n (a.kG n k x b).1 (updV v k.toNat x) (N+3*n.pa+n.jo+6))/\
   (¬((0<=k/\k<(n.bl:Int))/\(0<=b/\b<3))->(a.kG n k x b).2≠0/\(a.kG n k x b).1=a):=by
 refine⟨fun q=>?_,fun q=>CaS.wrote_bad k x b oM⟩;obtain⟨w1,A,D⟩:=h.val.kG h.nop h.tie h1 j k x b q.1 q.2;exact⟨w1,h.fit.kG s h1 j k x b,h.tie.kG h1 j k x b,A,D⟩
theorem Inv15.gone(b:Inv15 n a v N)(h1:1<=a.next)(k:Int):
  (0<=k/\k<(n.bl:Int)->(a.gone n k).2=0/\Inv15 n (a.gone n k).1 (updV v k.toNat zB) (N+n.pa+2))/\(¬(0<=k/\k<(n.bl:Int))->(a.gone n k).2≠0/\(a.gone n k).1=a):=by
 refine⟨fun h=>?_,fun h=>CaS.gone_bad k h⟩;obtain⟨w1,j,q⟩:=b.val.gone b.nop k h;exact⟨w1,b.fit.gone h1 k,b.tie.gone k,j,q⟩
theorem YZ{P:List Int}(h:P=[]):Pl P:=by rw[h];intro x hx;cases hx
theorem Inv15.step(h:Inv15 n a v N)(h1:1<=a.next)(m:Int):
  Inv15 n (a.wstep n m).1 v (N+n.bl*(n.pa+2))/\(m<1->a.wstep n m=(a,0,1))/\
   (1<=m->(a.wstep n m).2.2=0/\(a.wstep n m).2.1=min m.toNat (dirtL a.ps).length/\dirtL (a.wstep n m).1.ps=(dirtL a.ps).drop (min m.toNat (dirtL a.ps).length)):=by
 have s:a.Go n N:=⟨h.fit,h1,h.tie,h.val.pl⟩
 by_cases j:m<1
 .have e:a.wstep n m=(a,0,1):=if_pos j;rw[e];exact⟨h.mono oM,fun _=>rfl,fun hx=>oM⟩
 .have e:a.wstep n m=a.step n m.toNat:=if_neg j;have b:=h.val.step h.tie h1 (YZ h.nop.1) (YZ h.nop.2) m.toNat oM;have k:=CaS.wstep_go s m;rw[e]at k⊢;have q:=b.no h.nop;have h2:=b.ok.1 q;refine⟨⟨k.fit,b.st.tie,b.st.no h.nop,b.st.val⟩,fun hx=>absurd hx j,fun _=>⟨q,h2,?_⟩⟩;rw[b.dirt,h2]
def EK(hi lo ba:Int)(dirty:Nat):Int:=if(dirty:Int)<=hi then 0 else if(dirty:Int)-lo<ba then(dirty:Int)-lo else ba
theorem Inv15.tick(h:Inv15 n a v N)(h1:1<=a.next)(k b j:Int):
  Inv15 n (a.tick n k b j).1 v (N+n.bl*(n.pa+2))/\(¬rightP k b j n.sl->a.tick n k b j=(a,0,1))/\
   (rightP k b j n.sl->(a.tick n k b j).2.2=0/\((a.tick n k b j).2.1:Int)=EK k b j (dirtL a.ps).length/\dirtL (a.tick n k b j).1.ps=(dirtL a.ps).drop (a.tick n k b j).2.1):=by
 unfold CaS.tick;by_cases q:rightP k b j n.sl
 .have s:chkP k b j n.sl=0:=if_pos q;rw[if_neg (fun e=>e s)];by_cases A:((dirtL a.ps).length:Int)<=k
  .rw [if_pos A];refine⟨h.mono oM,fun e=>absurd q e,fun _=>⟨rfl,?_,rfl⟩⟩;unfold EK;rw[if_pos A];rfl
  .rw [if_neg A];obtain⟨E,F,G,H,J⟩:=q;have L:1<=min (((dirtL a.ps).length:Int)-b) j:=oM;obtain⟨M,-,O⟩:=h.step h1 (min (((dirtL a.ps).length:Int)-b) j);obtain⟨Q,D,S⟩:=O L;refine⟨M,fun e=>absurd ⟨E,F,G,H,J⟩ e,fun _=>⟨Q,?_,by rw[S,D]⟩⟩;rw[D];unfold EK;rw[if_neg A];split<;>omega
 .have s:chkP k b j n.sl=1:=if_neg q;rw[if_pos (by rw[s];decide),s];exact⟨h.mono oM,fun _=>rfl,fun e=>absurd e q⟩
theorem Inv15.j9(h:Inv15 n a v N)(j:a.Jg n)(k:4<=n.jo):(a.j9 n).2=0/\Inv15 n (a.j9 n).1 v (N+n.jo):=by
 have b:=a.same_committed n oM;exact⟨h.nop.j9.1,h.fit.j9 j.len,h.tie.j9,b.noP h.nop,h.val.same b⟩
end
section
variable{own:Nat->Nat}{w:World}{c:Nat}{n:CaN}{p:CaP}{a:CaS}{v:Nat->Bk}{N:Nat}
def CaS.emptied(n:CaN)(a:CaS):CaS:=if dirtL a.ps=[]then a else(a.wstep n 64).1
theorem Inv15.emptied(h:Inv15 n a v N)(h1:1<=a.next)(s:n.bl<=12):Inv15 n (a.emptied n) v (N+n.bl*(n.pa+2))/\dirtL (a.emptied n).ps=[]:=by
 unfold CaS.emptied;split
 .next e=>exact⟨h.mono oM,e⟩
 .obtain ⟨b,-,j⟩:=h.step h1 64;obtain⟨-,-,k⟩:=j de;refine⟨b,?_⟩;have q:=wI a.ps;rw[h.val.pl]at q;rw[k];refine List.drop_eq_nil_of_le ?_;rw[show min (64:Int).toNat (dirtL a.ps).length=(dirtL a.ps).length by rw[Nat.min_eq_right];show _<=64;omega];exact qXp _
theorem RH(h:CaAt own w c n p a)(H:Inv15 n a v N)(J:n.bl<=12)(V:n.jo<=12)(X:N+n.bl*(n.pa+2)<=50000):
  Calls prog 120 #[ptr c] w fun e w'=>zt own w c n p ((a.emptied n).j9 n).1 (.int .i64 0) e w'/\(a.emptied n).W.length<=n.jo:=by
 obtain⟨j,Y⟩:=H.emptied h.nx1 J;have b:=Y8 H j Y X V J h (Did.refl h.far);clear H j Y X V J h;go_enter func120,ntmps120
 go_wp2_with fail
 go_loopg[] 1 (fun g wr=>∃Z L,(L=a/\g=1\/L=a.emptied n)/\CaAt Z wr c n p L/\Did own Z w wr)
 case atStart=>exact⟨own,a,.inl ⟨rfl,rfl⟩,b.o.2.2.2.2.2.2.1,b.o.2.2.2.2.2.2.2⟩
 case round=>
  obtain⟨ah,a1,a6,h1,a7⟩:=hrel;have a8:=qqh (WQ h1);have M:=Y2 h1 a7;have aa:=qqh a6;clear h1 a7 a6;go_wp2_with fail
  refine a8.o.mono ?_;rintro e ai ⟨aj,rfl,O,-,Q⟩;rw[qzc]at O;have h2:=M.o.1.new (uuo Q);have E:=M.o.2.trans (M.o.1.ko (uuo Q));obtain⟨ak,am,rfl⟩:=O.rd.j6;clear O Q a8;by_cases k:dirtL a1.ps=[]
  .have q:a1=a.emptied n:=by
    rcases aa.o with⟨e,-⟩|e
    .subst e;unfold CaS.emptied;rw[if_pos k]
    .exact e
   rw[k];subst q;have j:=b.o.2.1;have S:=qqh (wU h2 j.fit.w1 (by have:=j.fit.dO;have:=h2.jg.len;have:=b.o.2.2.2.1;have:=b.o.2.2.2.2.1;omega));rw[j.nop.j9.1]at S;have T:=Y2 h2 E;have ad:=qqh h2.jg.len;clear h2 E k j;go_wp2_with fail
   refine S.o.mono ?_;rintro e ae ⟨rfl,U,s,A⟩;have D:=Y2 s (T.o.2.trans A);clear s A S;go_wp2
   go_ret
   exact⟨⟨rfl,U,D.o.1,D.o.2⟩,ad.o⟩
  .have q:a1=a/\gk=1:=by
    rcases aa.o with e|e
    .exact e
    .exact absurd (by rw[e];exact b.o.2.2.1) k
   obtain⟨rfl,rfl⟩:=q;have F:=b.o.1.step h2.nx1 64;obtain⟨-,-,F⟩:=F;obtain⟨ab,-,-⟩:=F de;have G:=qqh (TP h2 b.o.1.fit b.o.2.2.2.1 b.o.1.tie 64);rw[ab]at G;have q:(a1.wstep n 64).1=a1.emptied n:=by unfold CaS.emptied;rw[if_neg k]
   rw[q]at G;have af:0<(dirtL a1.ps).length:=List.length_pos_iff.2 k;have T:=Y2 h2 E;generalize (dirtL a1.ps).length=ag at*;generalize ((a1.wstep n 64).2.1:Int)=m at*;have q1:(ag:Int)>0:=oM;clear h2 E k F ab q af;go_wp2_with fail
   refine G.o.mono ?_;rintro e ae ⟨rfl,U,s,A⟩;have D:=Y2 s (T.o.2.trans A);clear s A G;go_wp2
   go_roundg 0
   case measure=>decide
   case rel=>exact⟨U,_,.inr rfl,D.o.1,D.o.2⟩
end
end Go.Proofs.YtpejdgiccaijfaaGreatDoor
