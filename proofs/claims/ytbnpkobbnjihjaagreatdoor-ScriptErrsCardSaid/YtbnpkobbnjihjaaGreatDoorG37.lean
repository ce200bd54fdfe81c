/- What Attach fi -/
import Derived.Test.YtbnpkobbnjihjaaGreatDoorG35
import Derived.Test.YtbnpkobbnjihjaaGreatDoorG36
import Derived.Test.YtbnpkobbnjihjaaGreatDoorG33
set_option maxRecDepth 100000
set_option maxHeartbeats 4000000
namespace Go.Proofs.YtbnpkobbnjihjaaGreatDoor
open Go Go.RowKit Tryz
variable{w:World}{wh sq:Nat}{own:Nat->Nat}{M:List Ent}{F:List Bk}
theorem Rw{a:Nat}:∀{L:List (List Nat)},(∀r∈L,rseq r<=a)->repS L a=⟨[],a,a⟩:=by
 intro L h;unfold repS
 induction L with
 |nil=>rfl
 |cons r L j=>
  have h1:=h r qzo;rw[List.foldl_cons,show repStep ⟨[],a,a⟩ r=⟨[],a,a⟩ by
   unfold repStep;rw[if_neg (by show¬rseq r=a+1;omega)];show(⟨[],max a (rseq r),a⟩:RepS)=_;rw[Nat.max_eq_left h1]]
  exact j (fun x hx=>h x (qzn _ hx))
section
variable{n:CaN}{Z:Nat->Bk}{a:CaS}{E:Nat->List Ent}{R:Nat->List Int}{f0 com fp:Nat}{S:Nat->Prop}{w w':World}{b:Nat}{e:Ending}{F:List Bk}{O:List (Nat×Bk)}
theorem Zy{k:List Bk}{base m:Nat}:∀j,(∀i,i<j->curB F [] (base+i)=curB k [] (base+i))->scanTo F [] base m j=scanTo k [] base m j
 |0,_=>rfl
 |j+1,h=>by rw[scanTo,scanTo,Zy j (fun i s=>h i oM),h j oM]
theorem Rx{h:List Bk}{base m:Nat}(j:∀i,i<m->curB F [] (base+i)=curB h [] (base+i)):secsOf F [] base m=secsOf h [] base m:=
 List.map_congr_left fun i k=>j i (qzs.1 k)
theorem TA(k:sj n M){c:Int}{L:List EI}{wh' sq':Nat}(A:∀h,Lists (EJ M) h->¬(h.map EI.s).Nodup->False)
  (hx:(c=12/\L=[]/\(¬((M.map Ent.toI).map EI.b).Nodup\/∃h,Lists (EJ M) h/\¬(h.map EI.s).Nodup))\/(c=0/\wh'=wh/\sq'=sq/\Lists (EJ M) L/\(L.map EI.s).Nodup/\L.Pairwise (fun x y=>x.b<y.b))):
  c=0/\wh'=wh/\sq'=sq/\L=M.map Ent.toI:=by
 have D:∀e,e∈M.map Ent.toI↔EJ M e.b=some e:=fun e=>by
  unfold EJ;rw[Tv k.nd];exact⟨fun j=>⟨j,rfl⟩,fun j=>j.1⟩
 rcases hx with⟨-,-,hx|⟨h,h1,h2⟩⟩|⟨h1,h2,G,H,-,J⟩
 .exact absurd k.nd hx
 .exact (A h h1 h2).elim
 .exact ⟨h1,h2,G,Tw EI.b J (qXa.2 (k.2.2.imp fun j=>by show(_:Int)<_;simp only[Ent.toI];omega)) (fun x=>(H.2 x).trans (D x).symm)⟩
theorem WG(k:sj n M)(A:List EI)(j:Lists (EJ M) A):(A.map EI.s).Nodup:=by
 have D:∀e,EJ M e.b=some e->e∈M.map Ent.toI:=fun e h=>by
  unfold EJ at h;exact((Tv k.nd).1 h).1
 refine qXa.2 ((qXa.1 j.1).imp_of_mem fun{x y} hx hy H G=>H ?_);obtain⟨J,K,rfl⟩:=qzq.1 (D x ((j.2 x).1 hx));obtain⟨N,Q,rfl⟩:=qzq.1 (D y ((j.2 y).1 hy));have G:(J.s:Int)=(N.s:Int):=G;rw[ub k.2.1 K Q oM]
def telF(n:CaN)(F:List Bk)(wh sq:Nat)(M:List Ent):List Bk:=flushF F (ckO (1+(1-wh)*n.pa) n.pa (pagesB (sq+1) M))
theorem zbF(s:Nat)(j:s<1+(1-wh)*n.pa\/1+(1-wh)*n.pa+n.pa<=s):(telF n F wh sq M).getD s zB=F.getD s zB:=by
 unfold telF;rw[Ws,if_neg oM]
theorem Tel.again{Q:List Ent->Nat->Nat->Prop}(k:Tel n F [] Q)(H:sj n M)(a7:wh<=1)(aA:sq+2<1099511627776)(h1:wh=(nwS F [] 1 n.pa 2).2.1)(_:(nwS F [] 1 n.pa 2).1=true)(s:(nwS F [] 1 n.pa 2).2.2.1<=sq)
  (a8:∀r∈scanTo F [] n.jb n.jo n.jo,rseq r<=sq):Tel n (telF n F wh sq M) [] (fun L V X=>L=M/\V=1-wh/\X=sq+1):=by
 have aB:=n.slot0_eq;have aC:=n.size_eq;have aD:=zfM n.pa a7;have aa:=k.fl;have J:=fun ab Y=>zbF (n:=n) (F:=F) (wh:=wh) (sq:=sq) (M:=M) ab Y;have ad:(telF n F wh sq M).length=n.size:=(zM _ _).trans aa;obtain⟨ae,af,ag⟩:=H.need k.ok;have a6:curB (telF n F wh sq M) [] 0=curB F [] 0:=J 0 oM;have ah:readOk (secsOf (telF n F wh sq M) [] (1+(1-wh)*n.pa) n.pa)=true/\readSeq (secsOf (telF n F wh sq M) [] (1+(1-wh)*n.pa) n.pa)=sq+1/\readEs (secsOf (telF n F wh sq M) [] (1+(1-wh)*n.pa) n.pa)=M:=by
  refine rR oM ag af (by rw[xf];exact ae) (fun i K=>?_);rw[xf]at K;rw[Yw _ _ _ _ _ K];show(telF n F wh sq M).getD (1+(1-wh)*n.pa+i) zB=_;unfold telF;rw[Ws,if_pos oM]
  congr 1
  omega
 have N:secsOf (telF n F wh sq M) [] (1+wh*n.pa) n.pa=secsOf F [] (1+wh*n.pa) n.pa:=Rx fun i K=>J _ oM;have ai:nwS (telF n F wh sq M) [] 1 n.pa 2=(true,1-wh,sq+1,M):=by
  obtain⟨A,D,G⟩:=ah;rcases(show wh=0\/wh=1 by omega)with e|e
  .rw [e]at A D G N;simp only[Nat.sub_zero]at A D G;have aj:(nwS (telF n F wh sq M) [] 1 n.pa 1).2.2.1<=sq:=by
    rw[e];have T:nwS (telF n F 0 sq M) [] 1 n.pa 1=nwS F [] 1 n.pa 1:=by rw[nwS,nwS,N];rfl
    rw[T];rw[nwS]at h1 s;split at h1
    .next j=>
     rw[e]at h1;cases h1
    .next j=>
     rw[if_neg j]at s;exact s
   rw[e]at aj⊢;rw[nwS,A,D,G,if_pos (by simp;right;omega)]
  .rw [e]at A D G N;simp only[Nat.sub_self]at A D G;have T:nwS (telF n F 1 sq M) [] 1 n.pa 1=(true,0,sq+1,M):=by rw[nwS,A,D,G];rfl
   have Y:readSeq (secsOf F [] (1+1*n.pa) n.pa)<=sq:=by
    rw[nwS]at h1 s;split at h1
    .next j=>
     rw[if_pos j]at s;exact s
    .next j=>
     rw[e]at h1;rw[nwS]at h1;split at h1<;>cases h1
   rw[e,nwS,T,N,if_neg (fun j=>by
    rw[qxo]at j;have ak:(!true||decide (sq+1<readSeq (secsOf F [] (1+1*n.pa) n.pa)))=true:=j.2;rw[Bool.not_true,Bool.false_or,qYt]at ak;omega)]
 have aE:n.jb=1+2*n.pa:=rfl;have am:scanTo (telF n F wh sq M) [] n.jb n.jo n.jo=scanTo F [] n.jb n.jo n.jo:=Zy _ fun i K=>J _ oM;refine⟨k.ok,ad,by rw[a6];exact k.su,by rw[a6];exact k.ns,fun an ao=>(J _ oM).trans (k.zs an ao),qXz _,fun ap=>?_,fun aq=>?_⟩
 .obtain ⟨v,L,V,X,c,rfl,hsl,ar,au,av,hx⟩:=ap;rw[ai]at hx;rcases hx with⟨-,-,hx⟩|⟨-,aw,ax,-,r,U,hx⟩
  .cases hx
  have ay:repS aw (sq+1)=⟨[],sq+1,sq+1⟩:=Rw fun x hx=>by
   have h:=ax.mem_iff.1 hx;rw[show 1+2*n.pa=n.jb from rfl,am]at h;have:=a8 x h;omega
  dsimp only at U hx;rw[ay]at U;subst U;obtain⟨rfl,rfl,rfl,rfl⟩:=TA H (fun az h1 h2=>h2 (WG H az h1)) hx;rw[qzb,se]at hsl;exact⟨v,M,1-wh,sq+1,⟨rfl,rfl,rfl⟩,rfl,hsl,ar,au,av⟩
 .obtain ⟨rfl,rfl,rfl⟩:=aq;exact⟨H,oM,oM⟩
end
theorem YH(n:CaN)(L:Array Value)(h:L=(n.C++polC).toArray)(w:World):
  (Instr.build 42 #[(0,.agg n.C.toArray),(1,.agg polC.toArray)]).run prog w=.ok (.agg L) w:=by rw[h];kernel_rfl
def zhw(w:World)(n:CaN)(a:CaS)(e:Ending)(w':World):Prop:=
 ∃own r v q p,e=.returned (.tuple #[ptr r,.int .i64 0])/\RunAt own w' r v q n p a 0 false/\Below w.heap.size w w'/\(∀j,j<w.heap.size->own j=0)/\w.heap.size<=r/\(w.heap.size<=v/\w.heap.size<=q.lb/\w.heap.size<=q.mb)/\L3At own w' q.li q.lc q.lf n p.ssd
theorem zbG(n:CaN)(j:n.Ok)(k:mayS n.I=true){ssd back:Nat}(s:Dvs own w ssd back (fmtF n (List.replicate n.size zB) []) [] (List.replicate n.bl zB) [] []):
  Calls prog 34 #[ptr ssd,ptr back] w (ti own w ssd back n (attS n)):=
 ql s (Tt (O:=[]) j k jk) jk
theorem zdZ(n:CaN)(D:n.Ok)(T:mayS n.I=true)(hsl:2<=n.sl)(w:World)(nib:Nib w)(tur:Tur w):Calls prog 9 #[.agg (n.C++polC).toArray] w (zhw w n (attS n)):=by
 obtain⟨ah,J⟩:=qqe (n.C);obtain⟨ai,U⟩:=qqe (layC n.sl n.jo n.pa n.lo);obtain⟨m,a7⟩:=qqe (w.heap.size);obtain⟨w1,aP⟩:=qqe (w.alloc (.cells (ah++polC).toArray 42));have K:w1.heap[m]?=some (.cells (ah++polC).toArray 42 (0,0)):=by rw[aP,a7];exact zc w _ rfl
 have a8:=qqu aP;have bX:ah.length=7:=by rw[J];rfl
 have b8:=zf K;have b9:w1.rangeAt m 0 ah:=fun j u k=>b8 j u (by rw[qyg (qyl.1 k).1];exact k);have bq:w1.rangeAt m 7 polC:=fun j u k=>by
  have h2:=b8 (7+j) u (by rw[qyh oM,bX,show 7+j-7=j by omega];exact k)
  rwa[qXy]at h2
 have br:(prog.info? 38).map (·.size)=some ah.length:=by rw[J];exact xt
 have bs:Hid (Calls prog 16 #[.agg ah.toArray] w1 fun e w'=>e=.returned (.tuple #[.agg ai.toArray,.int .i64 0])/\Below w1.heap.size w1 w'):=by
  show Calls _ _ _ _ _;rw[J,U];obtain⟨G,N,bY,bZ,c0,c3,c4,c5,a1,a2,c6,c7,z⟩:=D;exact uG n.id n.bl n.sl n.jo n.pa n.lo n.ba G N bY bZ c0 c3 c4 c5 a1 a2 c6 c7 z w1
 rw[<-J];have au:=Y10 nib tur D T hsl J U K a8 a7;have bt:=Y2 aP a7;have bu:=underlying38;clear nib tur D T hsl J U K a8 a7 aP b8;go_enter func9,ntmps9
 go_upto_region 1 with fail
 rw[<-bt.o.1,<-bt.o.2];go_wp2_with (first
  |(refine qZa rfl _ _ rfl _ _ rfl _ _ b9 bu rfl br ?_)
  |fail)
 refine bs.out.mono ?_;rintro e bb ⟨rfl,bv⟩;obtain⟨nib,tur,D,T,hsl,J,U,K,a8,a7⟩:=au.o;obtain⟨lb,bc⟩:=qqe (bb.heap.size);obtain⟨aQ,aR⟩:=qqe (bb.alloc (.cells ai.toArray 62));obtain⟨V,aE⟩:=qqe (aQ.alloc (.cells #[.int .i64 1,.int .i64 0,.int .i64 2,.pointer none,.pointer none,.pointer none] 60));have aj:=qqb bv;have ak:=qqu aR;have H:=qqu aE;obtain⟨r,av⟩:=qqe (aQ.heap.size);have am:V.heap[r]?=some (.cells #[.int .i64 1,.int .i64 0,.int .i64 2,.pointer none,.pointer none,.pointer none] 60 (0,0)):=by rw[aE,av];exact zc aQ _ rfl
 have aw:V.heap.size=r+1:=by rw[aE,av];simp
 have bx:aQ.heap[lb]?=some (.cells ai.toArray 62 (0,0)):=by rw[aR,bc];exact zc bb _ rfl
 have bd:ai.length=7:=by rw[U];rfl
 have bz:∀v∈ai,v.oneCell'=true:=by rw[U];exact uX _ _ _ _
 have c8:Hid ((prog.info? 62).map (·.size)=some ai.length):=by show _=_;rw[bd];exact xh
 have c9:V.cell? ⟨lb,6,none⟩=some (.int .i64 (n.size:Int)):=by rw[za (H.jV bx),U];simp[layC,CaN.size]
 have bA:=((aj.trans ak).trans H).range b9 id;have bB:=(aj.trans ak).range bq id;have bC:V.cell? ⟨m,1,none⟩=some (.int .i64 (n.bl:Int)):=by rw[za (((aj.trans ak).trans H).jV K),J];rfl
 have bD:1<=n.size:=by unfold CaN.size;omega
 have bE:=qqh (Ut n.size bD D.z V);have bF:=Y4 (((a8.trans aj).trans ak).trans H) am aw (show w.heap.size<=r from by rw[av];exact((a8.trans aj).trans ak).size);have aS:=Y2 bd bz;have bG:Hid (w1.heap.size<=r):=qqh (by rw[av];exact(aj.trans ak).size);have aT:=Y4 aR aE bc av;clear nib tur D T hsl J U K a8 a7 bv aR aE aj ak H am aw bx bd bz bD b9 bq bs bc av;go_upto_region 5 with(first
  |(refine zk rfl _ _ _ rfl _ _ ai rfl rfl (by rw[aS.o.1];rfl) c8.out aS.o.2 ?_;rw[<-aT.o.1])
  |(refine qZa rfl _ _ rfl _ _ rfl _ _ bB underlying40 rfl tm ?_)
  |fail)
 rw[<-aT.o.2.1,<-aT.o.2.2.1,<-aT.o.2.2.2];go_wp2_with fail
 refine bE.out.mono ?_;rintro e aa ⟨G,rfl,aF,cb,bH⟩;obtain⟨H,am,aw,ab⟩:=bF.o;have X:=qqb bH;have aU:=X.jV am;have bI:=za aU 3;have cc:=zg aU 3;simp at bI;obtain⟨ax,aV⟩:=qqe (aa.setCell ⟨r,3,none⟩ (ptr G));have ad:Upd (fun j=>j=r) aa ax:=by rw[aV];exact zi aa r 3 _
 have aG:ax.heap[r]?=some (.cells #[.int .i64 1,.int .i64 0,.int .i64 2,ptr G,.pointer none,.pointer none] 60 (0,0)):=by rw[aV];exact zh aU 3 (ptr G)
 have aW:m<r:=by
  obtain⟨-,-,-,-,-,-,-,K,-,-⟩:=au.o;have h1:=zd K;have h2:=bG.out;omega
 have u5:=ad.jU (X.jU bC id) (fun e=>by replace e:m=r:=e;omega);have bJ:=ad.range (X.range bA id) (fun e=>by replace e:m=r:=e;omega);have bK:=qqh (Ut n.bl au.o.2.2.1.b1 au.o.2.2.1.b2 ax);have cd:=Y5 aF X ad aG aW;have bL:=qqh aV;clear aF cb bH H am aw ab X aU ad aG aW aV bC bA c9 bE bB;go_upto_region 8 with fail
 rw[<-bL.o];clear bI cc;go_wp2_with fail
 refine bK.out.mono ?_;rintro e aH ⟨N,rfl,bM,ce,bN⟩;obtain⟨aF,X,ad,aG,aW⟩:=cd.o;have ay:=qqb bN;have aX:=ay.jV aG;have bO:=za aX 4;have cf:=zg aX 4;simp at bO;obtain⟨Y,aI⟩:=qqe (aH.setCell ⟨r,4,none⟩ (ptr N));have aJ:Upd (fun j=>j=r) aH Y:=by rw[aI];exact zi aH r 4 _
 have aY:Y.heap[r]?=some (.cells #[.int .i64 1,.int .i64 0,.int .i64 2,ptr G,ptr N,.pointer none] 60 (0,0)):=by rw[aI];exact zh aX 4 (ptr N)
 have be:=aJ.range (ay.range bJ id) (fun e=>by replace e:m=r:=e;omega);obtain⟨nib,tur,D,T,hsl,J,U,K,a8,a7⟩:=au.o;obtain⟨H,am,aw,ab⟩:=bF.o;obtain⟨own,aK⟩:∃own:Nat->Nat,own=fun j=>if V.heap.size<=j/\j<aa.heap.size then 2 else if aa.heap.size<=j/\j<aH.heap.size then 3 else 0:=⟨_,rfl⟩
 have ch:ax.heap.size=aa.heap.size:=by rw[bL.o];simp
 have ci:Y.heap.size=aH.heap.size:=by rw[aI];simp
 have cj:=X.size;have cl:=ay.size;have aZ:Upd (fun j=>j=r) V Y:=((X.mono fE).trans ad).trans ((ay.mono fE).trans aJ);have b0:=H.size;have b1:=nib.lt;have b2:=tur.lt;have az:∀j,j<V.heap.size->own j=0:=fun j k=>by rw[aK];show(if _ then _ else if _ then _ else _)=_;rw[if_neg oM,if_neg oM]
 have an:Dvs own Y G N (List.replicate n.size zB) [] (List.replicate n.bl zB) [] []:=by
  refine⟨?_,?_,fun j k=>?_,(nib.keep H id).keep aZ (fun e=>by replace e:1=r:=e;omega),(tur.keep H id).keep aZ (fun e=>by replace e:0=r:=e;omega),az _ oM,az _ oM⟩
  .have a1:Dv (fun j=>V.heap.size<=j/\j<aa.heap.size) aa G (List.replicate n.size zB) [] []:=aF.out (fun j h1 h2=>⟨h2,h1⟩);have a2:=((a1.keep ad (fun j h e=>oM)).new ay).keep aJ (fun j h e=>oM);exact a2.out (fun j _ k=>by rw[aK];exact if_pos k)
  .have a2:=bM.keep aJ (fun j (h:ax.heap.size<=j) e=>oM);exact a2.out (fun j h1 (h2:ax.heap.size<=j)=>by rw[aK];show(if _ then _ else if _ then _ else _)=_;rw[if_neg oM,if_pos ⟨oM,oM⟩])
  .rw [aK];show(if _ then _ else if _ then _ else _)=_;rw[if_neg oM,if_neg oM]
 have bf:=za aY 3;have bg:=za aY 4;simp at bf bg;have aA:=(uur (fun _=>False) Y).drew;have bh:=zaV (an.new aA).kC (fun j k=> .inr k) (an.new aA).back (an.new aA).nib (an.new aA).on2 n D T jk jk (qXz _);rw[<-J]at bh;have co:=qqh bh;have aB:=Y8 (an.new aA) (an.j3 aA) (show Bo own Y r _ _ from⟨aY,az r oM⟩) (az:∀j,j<V.heap.size->own j=0) (H.new aZ (fun i cF e=>oM):Upd (fun _=>False) w Y) b0 (show own m=0 from az m (by have h1:=zd K;have h2:=bG.out;omega)) (show w.heap.size<=r/\1<w.heap.size/\0<w.heap.size from⟨ab,b1,b2⟩);have cp:=qqh aI;clear aF bM ce bN X ad aG aW ay aX aI aJ aY bJ u5 nib tur D T hsl J U K a8 a7 H am aw ab aK ch ci cj cl aZ b0 b1 b2 az an bh bK;go_upto_region 11 with fail
 rw[<-cp.o];clear bO cf;refine qZd (S:=fun W=>W.rangeAt m 0 ah/\W.cell? ⟨r,3,none⟩=some (ptr G)/\W.cell? ⟨r,4,none⟩=some (ptr N)) kR (⟨by rw[qYk];exact be,by rw[qYi];exact bf,by rw[qYi];exact bg⟩) (fun ao=>?_);refine Wl.i [0] (Wl.t ao (Wl.o ?_));refine Wl.l 1 (fun w h=>h.1) bu br ao ?_;refine Wl.i [2,3,4,5,6,7,8,9] ?_;iterate 8 refine Wl.t ao ?_
 refine Wl.o ?_;refine Wl.r 10 (fun a6 A=>?_);go_simp
 refine co.o.mono ?_;rintro e ae ⟨rfl,bP,bi⟩;have aL:=aB.o.1.kz bi bP;have af:=aB.o.2.1.trans (aB.o.1.did2 bi);obtain⟨cG,bQ⟩:=qqe (grow own 2 Y.drew.heap.size ae.heap.size);rw[<-bQ]at aL af;have ap:=aB.o.2.2.1.did af;have cq:=af.upd.range be (fun e=>e.1 aB.o.2.2.2.2.2.2.1);have bR:ae.cell? ⟨r,3,none⟩=some (ptr G):=ap.cell 3;have bS:ae.cell? ⟨r,4,none⟩=some (ptr N):=ap.cell 4;have aq:=Y3 aL af ap;clear bP bi bQ aL af ap;refine A.o _ _ (⟨cq,bR,bS⟩) (fun b3=>?_);clear A a6;refine Wl.r 11 (fun a6 A=>?_);go_simp
 refine A.o _ _ (b3) (fun bj=>?_);clear A a6;refine Wl.d ?_;go_upto_region 14 with fail
 have b4:=(uur (fun _=>False) ae).drew;obtain⟨nib,tur,D,T,hsl,-⟩:=au.o;have aS:=qqh (EM D hsl (fun cH cr=>zbG n D T (aq.out.1.new (b4.trans cr))) (aq.out.1.new b4).far);have ct:=aq.out.1.j3 b4;have bT:ae.rangeAt r 0 polC:=fun j u k=>(zf aq.out.2.2.1) j u (by
  have aM:=(qyl.1 k).1;replace aM:j<3:=aM;rcases(show j=0\/j=1\/j=2 by omega)with rfl|rfl|rfl<;>exact k)
 clear nib tur D T hsl b4 bf bg be;refine qZd (S:=fun W=>W.cell? ⟨r,3,none⟩=some (ptr G)/\W.cell? ⟨r,4,none⟩=some (ptr N)/\W.rangeAt r 0 polC) kR (⟨by rw[qYi];exact bR,by rw[qYi];exact bS,by rw[qYk];exact bT⟩) (fun ao=>?_);refine Wl.i [0,1,2,3,4,5,6,7,8,9,10,11] ?_;iterate 12 refine Wl.t ao ?_
 refine Wl.o ?_;refine Wl.l 12 (fun w h=>h.2.2) underlying40 tm ao ?_;refine Wl.r 13 (fun a6 A=>?_);go_simp
 refine aS.o.mono ?_;rintro e Q ⟨v,q,p,b5,rfl,aN,aC,aO,aD,ag,bU⟩;have ar:=ct.trans bU;have s:=aq.out.2.2.did ar;have cu:Q.cell? ⟨r,3,none⟩=some (ptr G):=s.cell 3;have cv:Q.cell? ⟨r,4,none⟩=some (ptr N):=s.cell 4;have cI:Q.cell? ⟨r,5,none⟩=some (.pointer none):=s.cell 5;have cJ:=zg s.1 5;have cx:Q.rangeAt r 0 polC:=ar.upd.range bT (fun e=>e.1 aq.out.2.2.2);have b6:=zh s.1 5 (ptr v);have cy:(Q.setCell ⟨r,5,none⟩ (ptr v)).cell? ⟨r,3,none⟩=some (ptr G):=za b6 3;have cz:(Q.setCell ⟨r,5,none⟩ (ptr v)).cell? ⟨r,4,none⟩=some (ptr N):=za b6 4;have cA:(Q.setCell ⟨r,5,none⟩ (ptr v)).rangeAt r 0 polC:=fun j u k=>(zf b6) j u (by have aM:=(qyl.1 k).1;replace aM:j<3:=aM;rcases(show j=0\/j=1\/j=2 by omega)with rfl|rfl|rfl<;>exact k);have cB:=Y7 aN aC aO aD ag ar s;clear aN aC aO aD ag bU ar s b6;refine A.o _ _ (⟨cu,cv,cx⟩) (fun b3=>?_);clear A a6;refine Wl.i [14,15,16,17,18] ?_;iterate 5 refine Wl.t b3 ?_
 refine Wl.o ?_;refine Wl.r 19 (fun a6 A=>?_);go_simp
 refine A.o _ _ (⟨cy,cz,cA⟩) (fun bj=>?_);clear A a6;refine Wl.r 20 (fun a6 A=>?_);go_simp
 refine A.o _ _ (bj) (fun cK=>?_);clear A a6;refine Wl.d ?_;obtain⟨aN,aC,aO,aD,ag,ar,s⟩:=cB.o;obtain⟨aL,af,ap⟩:=aq.out;obtain⟨-,-,cC,bV,bk,b0,cD,ab,b1,b2⟩:=aB.o;have b7:=zi Q r 5 (ptr v);have bn:=af.trans ar;have bo:∀j,j<w.heap.size->own j=0:=fun j k=>bV j oM;have cE:=qqh (show RunAt b5 (Q.setCell ⟨r,5,none⟩ (ptr v)) r v q n p (attS n) 0 false/\Below w.heap.size w (Q.setCell ⟨r,5,none⟩ (ptr v))/\(∀j,j<w.heap.size->b5 j=0)/\w.heap.size<=r/\(w.heap.size<=v/\w.heap.size<=q.lb/\w.heap.size<=q.mb)/\L3At b5 (Q.setCell ⟨r,5,none⟩ (ptr v)) q.li q.lc q.lf n p.ssd from
  ⟨⟨aN.box ⟨s.1,s.2⟩ de de ⟨oM,oM⟩ b7,by rw[aC,aO];exact zh s.1 5 (ptr v),s.2⟩,
   zj (zj (Upd.below bk) bn.upd (qXp _) (fun bW bp=>Nat.le_of_not_lt fun hlt=>bp.1 (bo bW hlt))) b7 (qXp _) (fun bW bp=>by rw[bp];exact ab),
   fun j k=>(bn.old j (qXs k bk.size)).trans (bo j k),ab,(by have h1:=zd ap.1;replace aD:ae.heap.size<=v/\ae.heap.size<=q.lb/\ae.heap.size<=q.mb:=aD;omega),by
    rw[aC];refine ag.keep b7 (fun j k _=> .inr ?_);replace k:j=r:=k;rw[k];refine⟨fun e=>?_,fun e=>?_,fun e=>?_⟩
    .have h1:=ag.i.str;rw[<-e,s.1]at h1;cases h1
    .have h1:=ag.c.str;rw[<-e,s.1]at h1;cases h1
    .have h1:=ag.f.str;rw[<-e,s.1]at h1;cases h1⟩)
 clear aN aC aO aD ag ar s aL af ap cC bV bk b0 cD ab b1 b2 b7 bn bo ao b3 bj;go_wp2
 go_ret2
 exact⟨b5,r,v,q,p,rfl,cE.o⟩
def n21:CaN:=smN 9 2 8
def uu:Bk:=xq 2 5
def x210:CaS:=attS n21
def x211:CaS:=(x210.ku n21 2 uu 0).1
def x212:CaS:=((caS0 n21 1 (1+1) x211.dF [] [] x211.bF [] []).ckpt n21).1
def zfO:CaS:=(x212.ku n21 2 uu 0).1
def x214:CaS:=(zfO.jZ n21).1
def e21:Ent:=⟨2,0,true,3629795150⟩
def x215:CaS:=((qo n21 0 3 x214.dF [] x214.bF [] [e21]).ckpt n21).1
theorem zfQ:n21.Ok:=VY 9 2 8 oM oM oM oM oM oM
theorem YI:(x210.ku n21 2 uu 0).2=0/\(x212.ku n21 2 uu 0).2=0/\(zfO.jZ n21).2=0:=⟨kR,kR,kR⟩
theorem YJ:(x211.j9 n21 2).2=(uu,0)/\(x212.j9 n21 2).2=(zB,0)/\(x215.j9 n21 2).2=(uu,0):=⟨kR,kR,kR⟩
theorem zfR(k:F.getD 11 zB=zB)(h1:F.getD 12 zB=zB)(h2:F.getD 13 zB=zB)(s:F.getD 14 zB=zB)(A:F.getD 15 zB=zB)(D:F.getD 16 zB=zB):
  ∀h,h<n21.lo+n21.lo+n21.lo->curB F [] (1+2*n21.pa+n21.jo+h)=zB:=fun h j=>by
 have j:h<6:=j;rcases(show h=0\/h=1\/h=2\/h=3\/h=4\/h=5 by omega)with rfl|rfl|rfl|rfl|rfl|rfl
 .exact k
 .exact h1
 .exact h2
 .exact s
 .exact A
 .exact D
theorem zfS:Emp n21 x211.dF [] 1 1:=
 ⟨zfQ,kR,kR,kR,kR,kR,oM,oM,zfR kR kR kR kR kR kR,qXz _⟩
theorem zea:sj n21 [e21]:=⟨fun x hx=>by simp at hx;subst hx;exact⟨de,de,de⟩,oe,oe⟩
theorem zfT:Tel n21 x214.dF [] (fun L wh sq=>L=[e21]/\wh=0/\sq=3):=by
 have A:nwS x214.dF [] 1 n21.pa 2=(true,0,2,[]):=kR;have D:scanTo x214.dF [] (1+2*n21.pa) n21.jo n21.jo=[[3,0,0,2,0,1,3629795150]]:=kR;have G:repS [[3,0,0,2,0,1,3629795150]] 2=⟨[[3,0,0,2,0,1,3629795150]],3,3⟩:=kR;have H:apRs (apM (([]:List Ent).map Ent.toI)) (([[3,0,0,2,0,1,3629795150]]:List (List Nat)).map natsI)=EJ [e21]:=by
  funext s
  show(if s=2 then some (⟨2,0,true,3629795150⟩:EI)else none)=if s=2 then some (⟨2,0,true,3629795150⟩:EI)else none
  rfl
 refine⟨zfQ,kR,kR,kR,zfR kR kR kR kR kR kR,qXz _,fun J=>?_,fun K=>?_⟩
 .obtain ⟨v,L,N,Q,c,rfl,hsl,T,U,V,h⟩:=J;rw[A,D]at h;rcases h with⟨-,-,h⟩|⟨-,R,X,-,r,j,h⟩
  .cases h
  .obtain rfl:=List.perm_singleton.1 X;dsimp only at j h;rw[G]at j;subst j;rw[H]at h;obtain⟨Y,a6,a7,a8⟩:=TA zea (wh:=0) (sq:=3) (wh':=N) (sq':=Q) (fun aa h1 h2=>h2 (WG zea aa h1)) (by
    rcases h with⟨h1,h2,k|k⟩|h
    .exact absurd qzx k
    .exact .inl ⟨h1,h2,.inr k⟩
    .exact .inr h)
   subst Y;subst a6;subst a7;subst a8;rw[qzb,se]at hsl;exact⟨v,[e21],_,_,⟨rfl,rfl,rfl⟩,rfl,hsl,T,U,V⟩
 .obtain ⟨rfl,rfl,rfl⟩:=K;exact⟨zea,oM,oM⟩
theorem EV{n:CaN}{G:List Bk}{O Q:List (Nat×Bk)}:((caS0 n wh sq F O [] G Q []).ckpt n).1.Tie n none:=CaS.Tie.ckpt (vO n.bl n.sl)
theorem EW{n:CaN}{G:List Bk}:((caS0 n wh sq F [] [] G [] []).ckpt n).1.Fit (sq+3+n.pa):=
 CaS.Fit.ckpt (N:=sq+3) ⟨fun k v h=>jS,fun q h=>jS,by show sq+1<=_;omega,qXz _,qXz _,qXz _,qXz _,qXz _⟩
theorem zfU:inS n21.bl 2 (1:Nat):=⟨de,de,de,de⟩
theorem zbH:fillW 2 5 1=[uu]:=kR
theorem zeb(a:CaS):CaS.wrN n21 0 2 (fillW 2 5 1) a 1=(a.ku n21 2 uu 0).1:=by rw[zbH];rfl
theorem wrIv21{a:CaS}{M:Nat}(D:a.Tie n21 none)(J:M<=1000)(h:(a.ku n21 2 uu 0).2=0):zbv n21 0 2 (fillW 2 5 1) (fun j b=>b=CaS.wrN n21 0 2 (fillW 2 5 1) a j/\b.Fit (M+j*17)):=fun j b s G H h1=>by
 rw[zbH]at*;obtain rfl:j=0:=by simp at s;exact s
 obtain⟨rfl,A⟩:=G;exact⟨⟨_,D,A,by show M+0*17+3*1+8+6<=_;omega⟩,h,rfl,by have k:=A.kq H h1 de (2:Int).toNat uu;rw[<-JZ (show(0:Int)<=2/\(2:Int)<(n21.bl:Int) by decide)]at k;rw[show M+0*17+3*n21.pa+n21.jo+6=M+(0+1)*17 from by show M+0*17+3*1+8+6=_;omega]at k;exact k⟩
theorem sr{W:World}{v:Nat}{q:VoP}{p:CaP}{a:CaS}{k:Value}{M:Nat}{h:Bool}(s:VolAt own W v q n21 p a 0 false)(A:Rz own W k (fillW 2 5 1))(D:a.Tie n21 none)(G:a.Fit M)(H:M<=1000)(J:(a.ku n21 2 uu 0).2=0)(K:h=true->((a.ku n21 2 uu 0).1.jZ n21).2=0):
  Calls prog 78 #[ptr v,.int .i64 2,.bool h,k] W fun e W'=>vv own W v q n21 p (CaS.wrF n21 0 2 (fillW 2 5 1) a h) 0 false (.int .i64 0) e W'/\True:=
 (WA s rfl (by rw[vQ];exact zfU) (by rw[zbH];intro x hx;simp at hx;rw[hx];rfl) A (wrIv21 D H J) ⟨rfl,by rw[qYa];exact G⟩ (fun b N _ _=>by
  obtain⟨rfl,j⟩:=N;refine⟨⟨_,j,?_⟩,fun j=>?_⟩
  .rw [zbH];show M+1*17<=_;omega
  .rw [vQ,zeb];exact K j)).mono fun e W' P=>⟨P.1,trivial⟩
theorem zhx(a:CaS)(h:(a.j9 n21 2).2.2=0):∀j,j<1->(CaS.rdC n21 2 a j).2=0:=fun j k=>by
 obtain rfl:j=0:=oM;exact h
theorem zhy(a:CaS)(y:Bk)(h:(a.j9 n21 2).2.1=y):CaS.rdL n21 2 a 1=[y]:=by rw[<-h];rfl
theorem zcj:(x211.j9 n21 2).1.dF=x211.dF/\(x211.j9 n21 2).1.bF=x211.bF:=⟨kR,kR⟩
theorem zfV:(x212.j9 n21 2).1=x212:=kR
theorem zfW:x211.bF.length=9/\x214.bF.length=9:=⟨kR,kR⟩
theorem zfX{x y:Nat}(h:Dvs own w x y x211.dF [] x211.bF [] []):Calls prog 34 #[ptr x,ptr y] w (ti own w x y n21 x212):=ql h zfS zfW.1
theorem zfY{x y:Nat}(h:Dvs own w x y x214.dF [] x214.bF [] []):Calls prog 34 #[ptr x,ptr y] w (ti own w x y n21 x215):=
 (sk h zfT zfW.2).mono fun e w' ⟨L,wh,sq,⟨h1,h2,j⟩,k⟩=>by
  subst h1;subst h2;subst j;exact k
theorem Uk{m:Int}{u:Value}{y:Bk}(T:Rd w 64 u 1 (rowC [y]))(hy:y.length=64)(h1:u.oneCell'=true):Calls prog 13 #[.agg #[.int .i64 0,.int .i64 m,u],.agg (bkC y).toArray] w fun e w'=>e=.returned (.bool true)/\Below w.heap.size w w':=by
 obtain⟨s,H⟩:=qqe (w.heap.size);obtain⟨w1,A⟩:=qqe ((w.alloc (.cells #[.int .i64 0,.int .i64 m,u] 45)).alloc (.cells (bkC y).toArray 54));have J:Upd (fun _=>False) w w1:=by rw[A];exact((uur _ w).alloc _).alloc _
 have K:w1.heap[s]?=some (.cells #[.int .i64 0,.int .i64 m,u] 45 (0,0)):=by rw[A,H];exact(qxk _ _ _ oe).trans (zc w _ rfl)
 have U:w1.heap[s+1]?=some (.cells (bkC y).toArray 54 (0,0)):=by rw[A,H];exact zc _ _ oe
 obtain⟨g,o,c,V,N⟩:=zcf (L:=[y]) (T.keep J (fun _ _ h=>h)) (fun x hx=>by simp at hx;rw[hx];exact hy) (k:=0) oe;have a7:u=.slice (some ⟨g,o,none⟩) 1 c:=V;subst a7;replace N:w1.rangeAt g o (bkC y):=by
  have h2:=N;rw[qYa,qXm]at h2;exact h2
 have a8:=zf U;have aa:w1.cell? ⟨s,0,none⟩=some (.int .i64 0):=za K 0;have c2:w1.cell? ⟨s,2,none⟩=some (.slice (some ⟨g,o,none⟩) 1 c):=za K 2;have ad:∀W:World,(binOp .eql 54 (.agg (bkC y).toArray) (.agg (bkC y).toArray)).run prog W=.ok (.bool true) W:=fun W=>by rw[WS y y hy hy];simp
 have X:=zv y hy;have Y:=underlying54;have Q:=Y3 A H J;clear A H J K U T V;go_enter func13,ntmps13
 go_upto_region 1 with fail
 rw[<-Q.o.1,<-Q.o.2.1];refine qZd (S:=fun W=>W.cell? ⟨s,0,none⟩=some (.int .i64 0)/\W.cell? ⟨s,2,none⟩=some (.slice (some ⟨g,o,none⟩) 1 c)/\W.rangeAt g o (bkC y)/\W.rangeAt (s+1) 0 (bkC y)) kR (⟨by rw[qYi];exact aa,by rw[qYi];exact c2,by rw[qYk];exact N,by rw[qYk];exact a8⟩) (fun a6=>?_);refine Wl.i [0,1,2,3,4,5,6,7] ?_;iterate 8 refine Wl.t a6 ?_
 refine Wl.o ?_;refine Wl.r 8 (fun D j=>?_);go_simp
 refine j.o _ _ (a6) (fun G=>?_);clear j D;refine Wl.i [9,10,11,12] ?_;iterate 4 refine Wl.t G ?_
 refine Wl.o ?_;refine Wl.l 13 (fun w h=>h.2.2.1) Y X G ?_;refine Wl.l 14 (fun w h=>h.2.2.2) Y X G ?_;refine Wl.i [15] (Wl.t G (Wl.o ?_));refine Wl.r 16 (fun D j=>?_);go_simp
 refine j.o _ _ (G) (fun ab=>?_);clear j D;refine Wl.r 17 (fun D j=>?_);go_simp
 refine j.o _ _ (ab) (fun ae=>?_);clear j D;refine Wl.d ?_;go_wp2
 go_ret
 exact⟨rfl,Q.o.2.2.drew.below⟩
theorem tP{h:Array Oper}{rest:List Oper}{op:Oper}{x:Act}{Q:Exit->Act->World->Prop}(j:op.guard=none)(p q:Operand)(k:op.op=.build 42 #[(0,p),(1,q)])
  (n:CaN) (s:x.eval p=.agg n.C.toArray) (A:x.eval q=.agg polC.toArray) (L:Array Value) (D:L=(n.C++polC).toArray)
  (G:wpList prog h Q rest (x.put op.dst (.agg L)) w):wpList prog h Q (op::rest) x w:=by
 refine qZb j fun J H=>?_;unfold Oper.wp;simp only[execOp,k,qzk,qzh,qzj,s,A,qYg,YH n L D w,qYf];exact H _ _ G
def zfZ(w:World)(n:CaN)(e:Ending)(w':World):Prop:=
 ∃own r v q p,e=.returned (ptr r)/\RunAt own w' r v q n p (attS n) 0 false/\Below w.heap.size w w'/\(∀j,j<w.heap.size->own j=0)/\w.heap.size<=r/\(w.heap.size<=v/\w.heap.size<=q.lb/\w.heap.size<=q.mb)/\L3At own w' q.li q.lc q.lf n p.ssd
theorem EX(b s j:Nat)(h1:1<=b)(h2:b<=12)(a8:2<=s)(aa:s<=8)(ab:4<=j)(ad:j<=12)(w:World)(nib:Nib w)(tur:Tur w):
  Calls prog 7 #[.agg #[.int .i64 (b:Int),.int .i64 (s:Int),.int .i64 (j:Int)]] w (zfZ w (smN b s j)):=by
 have A:=VY b s j h1 h2 oM aa ab ad;obtain⟨m,V⟩:=qqe (w.heap.size);obtain⟨w1,D⟩:=qqe (w.alloc (.cells #[.int .i64 (b:Int),.int .i64 (s:Int),.int .i64 (j:Int)] 22));have ae:=qqu D;have G:w1.heap[m]?=some (.cells #[.int .i64 (b:Int),.int .i64 (s:Int),.int .i64 (j:Int)] 22 (0,0)):=by rw[D,V];exact zc w _ rfl
 have aj:w1.cell? ⟨m,0,none⟩=some (.int .i64 (b:Int)):=za G 0;have ak:w1.cell? ⟨m,1,none⟩=some (.int .i64 (s:Int)):=za G 1;have am:w1.cell? ⟨m,2,none⟩=some (.int .i64 (j:Int)):=za G 2;have H:=qqh (Ra b s j oM oM w1);obtain⟨n,J⟩:=qqe (smN b s j);have hsl:2<=n.sl:=by rw[J];exact a8
 rw[<-J]at H A⊢;obtain⟨an,X⟩:=qqe (n.C);rw[<-X]at H;obtain⟨L,af⟩:=qqe (n.C++polC);have k:=Y10 nib tur A (show mayS n.I=true from CaN.may A (by rw[J];show 7<=_;decide)) hsl X af D V ae;clear nib tur A hsl X af D V ae G J h1 h2 a8 aa ab ad;go_enter func7,ntmps7
 go_upto_region 1 with fail
 rw[<-k.o.2.2.2.2.2.2.2.1,<-k.o.2.2.2.2.2.2.2.2.1];go_wp2_with fail
 refine H.o.mono ?_;rintro e ao ⟨rfl,ag⟩;have ah:=uuo (S:=fun _=>False) ag;have K:=k.o.2.2.2.2.2.2.2.2.2.trans ah;have Y:=qqh (zdZ n k.o.2.2.1 k.o.2.2.2.1 k.o.2.2.2.2.1 ao (k.o.1.keep K id) (k.o.2.1.keep K id));rw[<-k.o.2.2.2.2.2.2.1]at Y;have ai:=qqh K;clear ag ah K H aj ak am;go_wp2_with (first
  |(refine tP rfl _ _ rfl n (by show Value.agg an.toArray=_;rw[k.o.2.2.2.2.2.1]) oA L.toArray (by rw[k.o.2.2.2.2.2.2.1]) ?_)
  |fail)
 refine Y.o.mono ?_;rintro e ar ⟨own,r,v,q,p,rfl,N,Q,T,a6,a7,U⟩;have ap:=Y6 N Q T a6 a7 U;clear N Q T a6 a7 U Y;go_wp2
 go_ret
 have aq:=ai.o.size;obtain⟨N,Q,T,a6,a7,U⟩:=ap.o;refine⟨own,r,v,q,p,rfl,N,(Upd.below ai.o).trans (Q.mono aq),fun i au=>T i oM,oM,oM,U⟩
theorem WH{h:Array Oper}{o:Oper}{a:Act}{j:Act->World->Prop}{Q:Exit->Act->World->Prop}{E:Prop}(k:Region.wanted o (yielded h a.tmps)=true)(s:o.op=.build 54 #[]){Z:Bk}
  (A:∀w:World,(Instr.build 54 #[]).run prog w=.ok (.agg (bkC Z).toArray) w) (D:j (a.put o.dst (.agg (bkC Z).toArray)) w):if Region.wanted o (yielded h a.tmps)=true then Oper.wp prog o a w j Q else E:=by
 rw[if_pos k];unfold Oper.wp;simp only[execOp,s,qzk,qzj,qYg,A,qYf];exact D
theorem EY(h:Bk)(j:h=uu)(w:World):Calls prog 14 #[.int .i64 2,.int .i64 5] w fun e w'=>e=.returned (.agg (bkC h).toArray)/\Below w.heap.size w w':=by
 rw[j];exact Et 2 5 w
theorem Rz.one{W:World}{u:Value}(h:Rz own W u F):u.oneCell'=true:=by
 obtain⟨j,c,rfl⟩:=h.1.rd.jW;rfl
def Ans(own:Nat->Nat)(W:World)(l:List (Nat×Value×List Bk)):Prop:=∀x∈l,Bo own W x.1 #[.int .i64 0,.int .i64 0,x.2.1] 45/\Rz own W x.2.1 x.2.2
structure AwSt(w:World)(r v:Nat)(n:CaN)(md:Int)(own:Nat->Nat)(W:World)(a:CaS)(l:List (Nat×Value×List Bk)):Prop where
 run:∃q p,RunAt own W r v q n p a md false
 ans:Ans own W l
 be:Below w.heap.size w W
 lo:∀j,j<w.heap.size->own j=0
 rw:w.heap.size<=r
 vw:w.heap.size<=v
section
variable{w W W':World}{r v:Nat}{n:CaN}{q:VoP}{p:CaP}{md md':Int}{own own':Nat->Nat}{a a':CaS}{l:List (Nat×Value×List Bk)}{u:Value}{L:List Bk}
theorem AwSt.step(h:AwSt w r v n md own W a l){v':Nat}(G:RunAt own' W' r v' q n p a' md' false)(d:DidR r v own own' W W')(N:v'=v\/W.heap.size<=v')(z0:Ro W own' W' u L):
  AwSt w r v' n md' own' (W'.alloc (.cells #[.int .i64 0,.int .i64 0,u] 45)) a' ((W'.heap.size,u,L)::l):=by
 have z:=z0.toRz;obtain⟨Q,T,D⟩:=h.run;have s:Upd (fun _=>False) W' (W'.alloc (.cells #[.int .i64 0,.int .i64 0,u] 45)):=(uur _ W').alloc _;refine⟨⟨q,p,G.new s⟩,fun x hx=>?_,?_,fun H J=>(d.old H (qXs J h.be.size)).trans (h.lo H J),h.rw,N.elim (fun e=>by rw[e];exact h.vw) (qXr h.be.size)⟩
 .rcases qzm.1 hx with rfl|hx
  .exact ⟨⟨zc W' _ rfl,G.vo.ca.far _ (qXp _)⟩,z.new s⟩
  .obtain ⟨b,A⟩:=h.ans x hx;refine⟨(b.didR d (fun e=>?_) (b.neV D.vo)).keep s id,Rz.new ⟨A.1.keep d.upd (fun g k e=>?_),fun g k=>(d.old g (A.1.lt k)).trans (A.2 g k)⟩ s⟩
   .have h2:=b.1;rw[e,D.g]at h2;cases h2
   .rcases e with e|e
    .exact e.1 (A.2 g k)
    .obtain ⟨-,⟨h1,-⟩|⟨K,U,V,X,h1,h2,-⟩⟩:=A.1
     .rw [h1]at k;cases k
     .rw [h1]at k;cases k;replace e:K=r\/K=v:=e;rcases e with e|e
      .rw [e,D.g]at h2;cases h2
      .rw [e,D.vo.g]at h2;cases h2
 .refine zj (zj h.be d.upd (qXp _) (fun P j=>?_)) s (qXp _) (fun _ h=>h.elim);rcases j with j|j
  .exact Nat.le_of_not_lt fun hlt=>j.1 (h.lo P hlt)
  .rcases j with j|j
   .rw [j];exact h.rw
   .rw [j];exact h.vw
end
section
variable{w W:World}{r v:Nat}{own:Nat->Nat}{a:CaS}{l:List (Nat×Value×List Bk)}{M:Nat}
theorem Ab(h:AwSt w r v n21 0 own W a l)(s:a.Tie n21 none)(A:a.Fit M)(D:M<=1000)(G:(a.ku n21 2 uu 0).2=0):
  Calls prog 10 #[ptr r,xI 1 2 1 5 (.slice none 0 0)] W (yg (fun j _=>j=v\/W.heap.size<=j) own W r v n21 0 0 [] (a.ku n21 2 uu 0).1 0 false):=by
 obtain⟨q,p,k⟩:=h.run;refine qk 42 (fun _ _ h=>h) k de (fun _=>de) rfl (fun W=>kR) (enters_of func42 kR rfl) (fun Q H=>?_);have h2:=tk (d:=1) (fi:=5) (N:=1) (kp:=.slice none 0 0) (k.new H) rfl de (fun own' W' T J K=>sr J K s A D G (fun e=>by cases e));rw[show CaS.wrF n21 0 2 (fillW 2 5 1) a ((1:Int)==2)=(a.ku n21 2 uu 0).1 from by rw[<-zeb];rfl]at h2;exact h2.mono fun e W' h=>h.1.to fun _ _ h=> .inl h.1
theorem zbI(h:AwSt w r v n21 0 own W a l)(s:a.Tie n21 none)(A:a.Fit M)(D:M<=1000)(G:(a.ku n21 2 uu 0).2=0)(H:((a.ku n21 2 uu 0).1.jZ n21).2=0):
  Calls prog 10 #[ptr r,xI 2 2 1 5 (.slice none 0 0)] W (yg (fun j _=>j=v\/W.heap.size<=j) own W r v n21 0 0 [] ((a.ku n21 2 uu 0).1.jZ n21).1 0 false):=by
 obtain⟨q,p,k⟩:=h.run;refine qk 42 (fun _ _ h=>h) k de (fun _=>de) rfl (fun W=>kR) (enters_of func42 kR rfl) (fun T J=>?_);have h2:=tk (d:=2) (fi:=5) (N:=1) (kp:=.slice none 0 0) (k.new J) rfl de (fun own' W' U K Q=>sr K Q s A D G (fun _=>H));rw[show CaS.wrF n21 0 2 (fillW 2 5 1) a ((2:Int)==2)=((a.ku n21 2 uu 0).1.jZ n21).1 from by rw[<-zeb];rfl]at h2;exact h2.mono fun e W' h=>h.1.to fun _ _ h=> .inl h.1
theorem YK(h:AwSt w r v n21 0 own W a l){y:Bk}(j:(a.j9 n21 2).2=(y,0)):
  Calls prog 10 #[ptr r,xI 0 2 1 0 (.slice none 0 0)] W (yg (fun k _=>k=v\/W.heap.size<=k) own W r v n21 0 0 [y] (a.j9 n21 2).1 0 false):=by
 obtain⟨q,p,s⟩:=h.run;refine qk 41 (fun _ _ h=>h) s de (fun e=>oM) rfl (fun W=>kR) (enters_of func41 kR rfl) (fun G A=>?_);have h2:=YF (d:=0) (fi:=0) (m:=1) (kp:=.slice none 0 0) (s.new A) rfl (fun own' W' D=>WB D zfU (zhx a (by rw[j])));rw[zhy a y (by rw[j])]at h2;exact h2.mono fun e W' h=>h.to fun _ _ h=> .inl h.1
theorem WI{a':CaS}(h:AwSt w r v n21 0 own W a l)(G:∀k j x y,Dvs k j x y a.dF [] a.bF [] []->Calls prog 34 #[ptr x,ptr y] j (ti k j x y n21 a')):
  Calls prog 10 #[ptr r,xI 12 0 0 0 (.slice none 0 0)] W (yg (fun s _=>s=v\/W.heap.size<=s) own W r v n21 0 0 [] a' 0 false):=by
 obtain⟨q,p,A⟩:=h.run;exact qk 52 (fun _ _ h=>h) A de (fun e=>oM) rfl (fun W=>kR) (enters_of func52 kR rfl) (fun H D=>(WF (B:=W.heap.size) ⟨oM,oM⟩ D.size (A.new D) de G).mono fun _ _ h=>h.to fun _ _ h=> .inr h)
end
theorem zbJ(w:World)(nib:Nib w)(tur:Tur w):Calls prog 6 #[] w fun e w'=>e=.returned (.bool true)/\Below w.heap.size w w':=by
 have bi:=qqh (EX 9 2 8 de de de de de de w nib tur);clear nib tur;go_enter func6,ntmps6
 go_wp2_with fail
 refine bi.o.mono ?_;rintro e c9 ⟨cb,r,v0,cc,cd,rfl,bj,bk,bl,bn,bo,-⟩;have aG:AwSt w r v0 n21 0 cb c9 x210 []:=⟨⟨cc,cd,bj⟩,fun x hx=>(by cases hx),bk,bl,bn,bo.1⟩
 have k:=qqh (Ab aG EV EW de YI.1);have bp:=qqh aG;clear bj bk bl bn bo aG bi;go_wp2_with fail
 refine k.o.mono ?_;rintro e bq ⟨ce,cf,q1,cZ,K,rfl,br,bs,bt,aH⟩;have aI:=bp.o.step br bs bt aH;obtain⟨N,aJ⟩:∃b,b=bq.heap.size:=⟨_,rfl⟩
 obtain⟨d0,c1,aa⟩:=aH.1.rd.jW;simp only[qzc]at aa;obtain⟨ch,aK⟩:∃D,D=bq.alloc (.cells #[.int .i64 0,.int .i64 0,K] 45):=⟨_,rfl⟩
 rw[<-aK,<-aJ]at aI;have aL:AwSt w r cf n21 0 ce ch x211 ((N,K,[])::[]):=aI;have ao:=Y2 aK aJ;have bu:=qqh aL;have k:=qqh (YK aL YJ.1);have d1:=qqh aa;rw[aa]at ao;rw[aa];clear aI aL aK aJ aa br bs bt aH;go_wp2_with fail
 rw[<-ao.o.1,<-ao.o.2];refine k.o.mono ?_;rintro e bv ⟨ci,cj,q2,d2,G,rfl,bx,bz,bA,aM⟩;clear k;have aN:=bu.o.step bx bz bA aM;obtain⟨Q,aO⟩:∃b,b=bv.heap.size:=⟨_,rfl⟩
 obtain⟨d3,c2,ab⟩:=aM.1.rd.jW;simp only[qzc,qyz,qXy]at ab;obtain⟨cl,aP⟩:∃D,D=bv.alloc (.cells #[.int .i64 0,.int .i64 0,G] 45):=⟨_,rfl⟩
 rw[<-aP,<-aO]at aN;have aQ:AwSt w r cj n21 0 ci cl ((x211.j9 n21 2).1) ((Q,G,[uu])::((N,K,[])::[])):=aN;have ap:=Y2 aP aO;have bB:=qqh aQ;have k:=qqh (WI aQ (fun aR co x y aq=>zfX (by rw[zcj.1,zcj.2]at aq;exact aq)));have d4:=qqh ab;rw[ab]at ap;rw[ab];clear aN aQ aP aO ab bx bz bA aM;go_wp2_with fail
 rw[<-ap.o.1,<-ap.o.2];refine k.o.mono ?_;rintro e bC ⟨cp,v3,d5,d6,u3,rfl,bD,bE,bF,z3⟩;clear k;have aS:=bB.o.step bD bE bF z3;obtain⟨V,aT⟩:∃b,b=bC.heap.size:=⟨_,rfl⟩
 obtain⟨d7,d8,ad⟩:=z3.1.rd.jW;simp only[qzc]at ad;obtain⟨cq,aU⟩:∃D,D=bC.alloc (.cells #[.int .i64 0,.int .i64 0,u3] 45):=⟨_,rfl⟩
 rw[<-aU,<-aT]at aS;have aV:AwSt w r v3 n21 0 cp cq x212 ((V,u3,[])::((Q,G,[uu])::((N,K,[])::[]))):=aS;have ar:=Y2 aU aT;have bG:=qqh aV;have k:=qqh (YK aV YJ.2.1);have d9:=qqh ad;rw[ad]at ar;rw[ad];clear aS aV aU aT ad bD bE bF z3;go_wp2_with fail
 rw[<-ar.o.1,<-ar.o.2];refine k.o.mono ?_;rintro e bH ⟨cr,v4,da,db,J,rfl,aW,bI,bJ,z4⟩;clear k;rw[zfV]at aW;have aX:=bG.o.step aW bI bJ z4;obtain⟨X,aY⟩:∃b,b=bH.heap.size:=⟨_,rfl⟩
 obtain⟨dc,dd,ae⟩:=z4.1.rd.jW;simp only[qzc,qyz,qXy]at ae;obtain⟨ct,aZ⟩:∃D,D=bH.alloc (.cells #[.int .i64 0,.int .i64 0,J] 45):=⟨_,rfl⟩
 rw[<-aZ,<-aY]at aX;have b0:AwSt w r v4 n21 0 cr ct x212 ((X,J,[zB])::((V,u3,[])::((Q,G,[uu])::((N,K,[])::[])))):=aX;have au:=Y2 aZ aY;have bK:=qqh b0;have k:=qqh (zbI b0 EV EW de YI.2.1 YI.2.2);have df:=qqh ae;rw[ae]at au;rw[ae];clear aX b0 aZ aY ae aW bI bJ z4;go_wp2_with fail
 rw[<-au.o.1,<-au.o.2];refine k.o.mono ?_;rintro e bL ⟨aR,v5,dg,dh,u5,rfl,bM,bN,bO,z5⟩;clear k;have b1:=bK.o.step bM bN bO z5;obtain⟨af,b2⟩:∃b,b=bL.heap.size:=⟨_,rfl⟩
 obtain⟨di,dj,ag⟩:=z5.1.rd.jW;simp only[qzc]at ag;obtain⟨cu,b3⟩:∃D,D=bL.alloc (.cells #[.int .i64 0,.int .i64 0,u5] 45):=⟨_,rfl⟩
 rw[<-b3,<-b2]at b1;have b4:AwSt w r v5 n21 0 aR cu x214 ((af,u5,[])::((X,J,[zB])::((V,u3,[])::((Q,G,[uu])::((N,K,[])::[]))))):=b1;have av:=Y2 b3 b2;have bP:=qqh b4;have k:=qqh (WI b4 (fun aR co x y aq=>zfY aq));have dk:=qqh ag;rw[ag]at av;rw[ag];clear b1 b4 b3 b2 ag bM bN bO z5;go_wp2_with fail
 rw[<-av.o.1,<-av.o.2];refine k.o.mono ?_;rintro e bQ ⟨cv,cx,dl,dm,u6,rfl,bR,bS,bT,b5⟩;clear k;have b6:=bP.o.step bR bS bT b5;obtain⟨aw,b7⟩:∃b,b=bQ.heap.size:=⟨_,rfl⟩
 obtain⟨dn,dp,ah⟩:=b5.1.rd.jW;simp only[qzc]at ah;obtain⟨cy,b8⟩:∃D,D=bQ.alloc (.cells #[.int .i64 0,.int .i64 0,u6] 45):=⟨_,rfl⟩
 rw[<-b8,<-b7]at b6;have b9:AwSt w r cx n21 0 cv cy x215 ((aw,u6,[])::((af,u5,[])::((X,J,[zB])::((V,u3,[])::((Q,G,[uu])::((N,K,[])::[])))))):=b6;have ax:=Y2 b8 b7;have bU:=qqh b9;have k:=qqh (YK b9 YJ.2.2);have dq:=qqh ah;rw[ah]at ax;rw[ah];clear b6 b9 b8 b7 ah bR bS bT b5;go_wp2_with fail
 rw[<-ax.o.1,<-ax.o.2];refine k.o.mono ?_;rintro e bV ⟨cz,cA,dr,ds,u7,rfl,bW,bX,bY,ba⟩;clear k;have bb:=bU.o.step bW bX bY ba;obtain⟨ay,bc⟩:∃b,b=bV.heap.size:=⟨_,rfl⟩
 obtain⟨dt,du,ai⟩:=ba.1.rd.jW;simp only[qzc,qyz,qXy]at ai;obtain⟨H,bd⟩:∃D,D=bV.alloc (.cells #[.int .i64 0,.int .i64 0,u7] 45):=⟨_,rfl⟩
 rw[<-bd,<-bc]at bb;have bZ:AwSt w r cA n21 0 cz H ((x215.j9 n21 2).1) ((ay,u7,[uu])::((aw,u6,[])::((af,u5,[])::((X,J,[zB])::((V,u3,[])::((Q,G,[uu])::((N,K,[])::[]))))))):=bb;have az:=Y2 bd bc;have T:=qqh bZ;have dw:=qqh ai;rw[ai]at az;rw[ai];clear bb bZ bd bc ai bW bX bY ba;go_upto_region 11 with fail
 rw[<-az.o.1,<-az.o.2];have c0:=T.o.ans (N,K,[]) oe;have aA:=T.o.ans (Q,G,[uu]) oe;have c3:=T.o.ans (V,u3,[]) oe;have aB:=T.o.ans (X,J,[zB]) oe;have c4:=T.o.ans (af,u5,[]) oe;have c5:=T.o.ans (aw,u6,[]) oe;have aC:=T.o.ans (ay,u7,[uu]) oe;have cB:H.cell? ⟨N,0,none⟩=some (.int .i64 0):=c0.1.cell 0;have cC:H.cell? ⟨V,0,none⟩=some (.int .i64 0):=c3.1.cell 0;have cD:H.cell? ⟨af,0,none⟩=some (.int .i64 0):=c4.1.cell 0;have cE:H.cell? ⟨aw,0,none⟩=some (.int .i64 0):=c5.1.cell 0;have a6:H.rangeAt Q 0 [.int .i64 0,.int .i64 0,G]:=zf aA.1.1;have a7:H.rangeAt X 0 [.int .i64 0,.int .i64 0,J]:=zf aB.1.1;have a8:H.rangeAt ay 0 [.int .i64 0,.int .i64 0,u7]:=zf aC.1.1;obtain⟨Y,aj⟩:=qqe (uu);obtain⟨Z,aD⟩:=qqe (zB);have U:=Y8 (show Rd H 64 G 1 (rowC [Y])from by rw[aj];exact aA.2.1.rd) (show Rd H 64 J 1 (rowC [Z])from by rw[aD];exact aB.2.1.rd) (show Rd H 64 u7 1 (rowC [Y])from by rw[aj];exact aC.2.1.rd) (show G.oneCell'=true from aA.2.one) (show J.oneCell'=true from aB.2.one) (show u7.oneCell'=true from aC.2.one) (show Y.length=64 from by rw[aj];exact xe 2 5) (show Z.length=64 from by rw[aD];exact zG);have cF:=qqh T.o.be;have c6:=qqh aj;have cG:=qqh (xF Z aD);clear c0 aA c3 aB c4 c5 aC bp bu bB bG bK bP bU T ao ap ar au av ax az aj aD;go_upto_region 12 with fail
 clear cB cC cD cE;have cH:=(uur (fun _=>False) H).drew;have bf:=underlying45;have bg:=zO;refine qZd (S:=fun W=>W.rangeAt Q 0 [.int .i64 0,.int .i64 0,G]/\W.rangeAt X 0 [.int .i64 0,.int .i64 0,J]/\W.rangeAt ay 0 [.int .i64 0,.int .i64 0,u7]) kR (⟨by rw[qYk];exact a6,by rw[qYk];exact a7,by rw[qYk];exact a8⟩) (fun c7=>?_);refine Wl.i [0,1] ?_;iterate 2 refine Wl.t c7 ?_
 refine Wl.o ?_;refine Wl.l 2 (fun w h=>h.1) bf bg c7 ?_;refine Wl.r 3 (fun s j=>?_);go_simp
 refine(EY Y c6.o _).mono ?_;rintro e dx ⟨rfl,A⟩;have ak:=cH.trans (uuo (S:=fun _=>False) A);have cI:=ak.range a6 id;have cJ:=ak.range a7 id;have cK:=ak.range a8 id;clear A;refine j.o _ _ (⟨cI,cJ,cK⟩) (fun dy=>?_);clear j s;refine Wl.r 4 (fun s j=>?_);go_simp
 refine(Uk (y:=Y) (U.o.1.keep ak (fun _ _ h=>h)) U.o.2.2.2.2.2.2.1 (U.o.2.2.2.1)).mono ?_;rintro e dz ⟨rfl,A⟩;have am:=ak.trans (uuo (S:=fun _=>False) A);have cL:=am.range a6 id;have cM:=am.range a7 id;have cN:=am.range a8 id;clear A;refine j.o _ _ (⟨cL,cM,cN⟩) (fun cO=>?_);clear j s;refine Wl.r 5 (fun s j=>?_);go_simp
 refine j.o _ _ (cO) (fun bh=>?_);clear j s;refine Wl.i [6] (Wl.t bh (Wl.o ?_));refine Wl.l 7 (fun w h=>h.2.1) bf bg bh ?_;refine Wl.r 8 (fun s j=>?_);refine WH oA rfl cG.o ?_;refine j.o _ _ (bh) (fun dA=>?_);clear j s;refine Wl.r 9 (fun s j=>?_);go_simp
 refine(Uk (y:=Z) (U.o.2.1.keep am (fun _ _ h=>h)) U.o.2.2.2.2.2.2.2 (U.o.2.2.2.2.1)).mono ?_;rintro e dB ⟨rfl,A⟩;have aE:=am.trans (uuo (S:=fun _=>False) A);have cP:=aE.range a6 id;have t3:=aE.range a7 id;have cQ:=aE.range a8 id;clear A;refine j.o _ _ (⟨cP,t3,cQ⟩) (fun cR=>?_);clear j s;refine Wl.r 10 (fun s j=>?_);go_simp
 refine j.o _ _ (cR) (fun c8=>?_);clear j s;refine Wl.i [11] (Wl.t c8 (Wl.o ?_));refine Wl.l 12 (fun w h=>h.2.2) bf bg c8 ?_;refine Wl.r 13 (fun s j=>?_);go_simp
 refine(EY Y c6.o _).mono ?_;rintro e dC ⟨rfl,A⟩;have an:=aE.trans (uuo (S:=fun _=>False) A);have cT:=an.range a6 id;have t4:=an.range a7 id;have cU:=an.range a8 id;clear A;refine j.o _ _ (⟨cT,t4,cU⟩) (fun dD=>?_);clear j s;refine Wl.r 14 (fun s j=>?_);go_simp
 refine(Uk (y:=Y) (U.o.2.2.1.keep an (fun _ _ h=>h)) U.o.2.2.2.2.2.2.1 (U.o.2.2.2.2.2.1)).mono ?_;rintro e dE ⟨rfl,A⟩;have aF:=an.trans (uuo (S:=fun _=>False) A);have cV:=aF.range a6 id;have t5:=aF.range a7 id;have cW:=aF.range a8 id;clear A;refine j.o _ _ (⟨cV,t5,cW⟩) (fun cX=>?_);clear j s;refine Wl.r 15 (fun s j=>?_);go_simp
 refine j.o _ _ (cX) (fun cY=>?_);clear j s;refine Wl.r 16 (fun s j=>?_);go_simp
 refine j.o _ _ (cY) (fun dF=>?_);clear j s;refine Wl.d ?_;go_wp2
 go_ret
 exact⟨rfl,zj cF.o aF (qXp _) (fun _ h=>h.elim)⟩
end Go.Proofs.YtbnpkobbnjihjaaGreatDoor
