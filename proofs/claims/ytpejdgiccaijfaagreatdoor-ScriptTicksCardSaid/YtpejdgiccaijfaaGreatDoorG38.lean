/- script.New. -/
import Derived.Test.YtpejdgiccaijfaaGreatDoorG34
import Derived.Test.YtpejdgiccaijfaaGreatDoorG35
set_option maxRecDepth 100000
set_option maxHeartbeats 4000000
namespace Go.Proofs.YtpejdgiccaijfaaGreatDoor
open Go Go.RowKit Tryz
theorem Xf(n:CaN)(L:Array Value)(a:L=(n.C++polC).toArray)(w:World):
  (Instr.build 48 #[(0,.agg n.C.toArray),(1,.agg polC.toArray)]).run prog w=.ok (.agg L) w:=by rw[a];kernel_rfl
def zhc(w:World)(n:CaN)(a:CaS)(e:Ending)(w':World):Prop:=
 ∃own r v q p,e=.returned (.tuple #[ptr r,.int .i64 0])/\RunAt own w' r v q n p a 0 false/\Below w.heap.size w w'/\(∀j,j<w.heap.size->own j=0)/\w.heap.size<=r/\(w.heap.size<=v/\w.heap.size<=q.lb/\w.heap.size<=q.mb)/\L3At own w' q.li q.lc q.lf n p.ssd
theorem zbs(n:CaN)(a:n.Ok)(b:mayS n.I=true){own:Nat->Nat}{w:World}{ssd back:Nat}(j:Dvs own w ssd back (fmtF n (List.replicate n.size zB) []) [] (List.replicate n.bl zB) [] []):
  Calls prog 55 #[ptr ssd,ptr back] w (tJ own w ssd back n (attS n)):=
 qL j (zaX (O:=[]) a b jy) jy
theorem zdI(n:CaN)(q:n.Ok)(G:mayS n.I=true)(hsl:2<=n.sl)(w:World)(nib:Nib w)(tur:Tur w):Calls prog 15 #[.agg (n.C++polC).toArray] w (zhc w n (attS n)):=by
 obtain⟨Z,A⟩:=qqe (n.C);obtain⟨a6,H⟩:=qqe (layC n.sl n.jo n.pa n.lo);obtain⟨m,O⟩:=qqe (w.heap.size);obtain⟨w1,aG⟩:=qqe (w.alloc (.cells (Z++polC).toArray 48));have D:w1.heap[m]?=some (.cells (Z++polC).toArray 48 (0,0)):=by rw[aG,O];exact zc w _ rfl
 have Q:=qqu aG;have bS:Z.length=7:=by rw[A];rfl
 have aZ:=zg D;have b0:w1.rangeAt m 0 Z:=fun a u b=>aZ a u (by rw[qyh (qym.1 b).1];exact b);have bg:w1.rangeAt m 7 polC:=fun a u b=>by
  have h2:=aZ (7+a) u (by rw[qyi oM,bS,show 7+a-7=a by omega];exact b)
  rwa[qXy]at h2
 have bh:(prog.info? 44).map (·.size)=some Z.length:=by rw[A];exact xB
 have bi:Hid (Calls prog 26 #[.agg Z.toArray] w1 fun e bT=>e=.returned (.tuple #[.agg a6.toArray,.int .i64 0])/\Below w1.heap.size w1 bT):=by
  show Calls _ _ _ _ _;rw[A,H];obtain⟨s,E,bU,bV,bW,bX,bY,bZ,a1,a2,c0,c3,z⟩:=q;exact tc n.id n.bl n.sl n.jo n.pa n.lo n.ba s E bU bV bW bX bY bZ a1 a2 c0 c3 z w1
 rw[<-A];have ai:=Y10 nib tur q G hsl A H D Q O;have bj:=Y2 aG O;have bn:=underlying44;clear nib tur q G hsl A H D Q O aG aZ;go_enter func15,ntmps15
 go_upto_region 1 with fail
 rw[<-bj.o.1,<-bj.o.2];go_wp2_with (first
  |(refine qYz rfl _ _ rfl _ _ rfl _ _ b0 bn rfl bh ?_)
  |fail)
 refine bi.out.mono ?_;rintro e b1 ⟨rfl,bp⟩;obtain⟨nib,tur,q,G,hsl,A,H,D,Q,O⟩:=ai.o;obtain⟨bq,b2⟩:=qqe (b1.heap.size);obtain⟨aH,aI⟩:=qqe (b1.alloc (.cells a6.toArray 73));obtain⟨J,av⟩:=qqe (aH.alloc (.cells #[.int .i64 1,.int .i64 0,.int .i64 2,.pointer none,.pointer none,.pointer none] 68));have a7:=qqb bp;have a8:=qqu aI;have v:=qqu av;obtain⟨r,aj⟩:=qqe (aH.heap.size);have aa:J.heap[r]?=some (.cells #[.int .i64 1,.int .i64 0,.int .i64 2,.pointer none,.pointer none,.pointer none] 68 (0,0)):=by rw[av,aj];exact zc aH _ rfl
 have ak:J.heap.size=r+1:=by rw[av,aj];simp
 have br:aH.heap[bq]?=some (.cells a6.toArray 73 (0,0)):=by rw[aI,b2];exact zc b1 _ rfl
 have b3:a6.length=7:=by rw[H];rfl
 have bs:∀k∈a6,k.oneCell'=true:=by rw[H];exact tG _ _ _ _
 have c4:Hid ((prog.info? 73).map (·.size)=some a6.length):=by show _=_;rw[b3];exact xU
 have c5:J.cell? ⟨bq,6,none⟩=some (.int .i64 (n.size:Int)):=by rw[za (v.j4 br),H];simp[layC,CaN.size]
 have bt:=((a7.trans a8).trans v).range b0 id;have bu:=(a7.trans a8).range bg id;have bv:J.cell? ⟨m,1,none⟩=some (.int .i64 (n.bl:Int)):=by rw[za (((a7.trans a8).trans v).j4 D),A];rfl
 have bx:1<=n.size:=by unfold CaN.size;omega
 have bz:=qqh (UA n.size bx q.z J);have bA:=Y4 (((Q.trans a7).trans a8).trans v) aa ak (show w.heap.size<=r from by rw[aj];exact((Q.trans a7).trans a8).size);have aJ:=Y2 b3 bs;have bB:Hid (w1.heap.size<=r):=qqh (by rw[aj];exact(a7.trans a8).size);have aK:=Y4 aI av b2 aj;clear nib tur q G hsl A H D Q O bp aI av a7 a8 v aa ak br b3 bs bx b0 bg bi b2 aj;go_upto_region 5 with(first
  |(refine zk rfl _ _ _ rfl _ _ a6 rfl rfl (by rw[aJ.o.1];rfl) c4.out aJ.o.2 ?_;rw[<-aK.o.1])
  |(refine qYz rfl _ _ rfl _ _ rfl _ _ bu underlying46 rfl tM ?_)
  |fail)
 rw[<-aK.o.2.1,<-aK.o.2.2.1,<-aK.o.2.2.2];go_wp2_with fail
 refine bz.out.mono ?_;rintro e T ⟨s,rfl,aw,c6,bC⟩;obtain⟨v,aa,ak,U⟩:=bA.o;have L:=qqb bC;have aL:=L.j4 aa;have bD:=za aL 3;have c7:=zf aL 3;simp at bD;obtain⟨am,aM⟩:=qqe (T.setCell ⟨r,3,none⟩ (ptr s));have V:Upd (fun a=>a=r) T am:=by rw[aM];exact zi T r 3 _
 have ax:am.heap[r]?=some (.cells #[.int .i64 1,.int .i64 0,.int .i64 2,ptr s,.pointer none,.pointer none] 68 (0,0)):=by rw[aM];exact zh aL 3 (ptr s)
 have aN:m<r:=by
  obtain⟨-,-,-,-,-,-,-,D,-,-⟩:=ai.o;have h1:=zd D;have h2:=bB.out;omega
 have u5:=V.j3 (L.j3 bv id) (fun e=>by replace e:m=r:=e;omega);have bE:=V.range (L.range bt id) (fun e=>by replace e:m=r:=e;omega);have bF:=qqh (UA n.bl ai.o.2.2.1.b1 ai.o.2.2.1.b2 am);have c8:=Y5 aw L V ax aN;have bG:=qqh aM;clear aw c6 bC v aa ak U L aL V ax aN aM bv bt c5 bz bu;go_upto_region 8 with fail
 rw[<-bG.o];clear bD c7;go_wp2_with fail
 refine bF.out.mono ?_;rintro e ay ⟨E,rfl,bH,c9,bI⟩;obtain⟨aw,L,V,ax,aN⟩:=c8.o;have an:=qqb bI;have aO:=an.j4 ax;have bJ:=za aO 4;have cb:=zf aO 4;simp at bJ;obtain⟨M,az⟩:=qqe (ay.setCell ⟨r,4,none⟩ (ptr E));have aA:Upd (fun a=>a=r) ay M:=by rw[az];exact zi ay r 4 _
 have aP:M.heap[r]?=some (.cells #[.int .i64 1,.int .i64 0,.int .i64 2,ptr s,ptr E,.pointer none] 68 (0,0)):=by rw[az];exact zh aO 4 (ptr E)
 have b4:=aA.range (an.range bE id) (fun e=>by replace e:m=r:=e;omega);obtain⟨nib,tur,q,G,hsl,A,H,D,Q,O⟩:=ai.o;obtain⟨v,aa,ak,U⟩:=bA.o;obtain⟨own,aB⟩:∃own:Nat->Nat,own=fun a=>if J.heap.size<=a/\a<T.heap.size then 2 else if T.heap.size<=a/\a<ay.heap.size then 3 else 0:=⟨_,rfl⟩
 have cc:am.heap.size=T.heap.size:=by rw[bG.o];simp
 have cd:M.heap.size=ay.heap.size:=by rw[az];simp
 have ce:=L.size;have cf:=an.size;have aQ:Upd (fun a=>a=r) J M:=((L.mono fE).trans V).trans ((an.mono fE).trans aA);have aR:=v.size;have aS:=nib.lt;have aT:=tur.lt;have ao:∀a,a<J.heap.size->own a=0:=fun a b=>by rw[aB];show(if _ then _ else if _ then _ else _)=_;rw[if_neg oM,if_neg oM]
 have ab:Dvs own M s E (List.replicate n.size zB) [] (List.replicate n.bl zB) [] []:=by
  refine⟨?_,?_,fun a b=>?_,(nib.keep v id).keep aQ (fun e=>by replace e:0=r:=e;omega),(tur.keep v id).keep aQ (fun e=>by replace e:1=r:=e;omega),ao _ oM,ao _ oM⟩
  .have a1:Dv (fun a=>J.heap.size<=a/\a<T.heap.size) T s (List.replicate n.size zB) [] []:=aw.out (fun a h1 h2=>⟨h2,h1⟩);have a2:=((a1.keep V (fun a h e=>oM)).new an).keep aA (fun a h e=>oM);exact a2.out (fun a _ b=>by rw[aB];exact if_pos b)
  .have a2:=bH.keep aA (fun a (h:am.heap.size<=a) e=>oM);exact a2.out (fun a h1 (h2:am.heap.size<=a)=>by rw[aB];show(if _ then _ else if _ then _ else _)=_;rw[if_neg oM,if_pos ⟨oM,oM⟩])
  .rw [aB];show(if _ then _ else if _ then _ else _)=_;rw[if_neg oM,if_neg oM]
 have b5:=za aP 3;have b6:=za aP 4;simp at b5 b6;have ap:=(uur (fun _=>False) M).drew;have b7:=zaK (ab.new ap).kP (fun a b=> .inr b) (ab.new ap).back (ab.new ap).nib (ab.new ap).on2 n q G jy jy (qXz _);rw[<-A]at b7;have ch:=qqh b7;have aq:=Y8 (ab.new ap) (ab.ko ap) (show Bo own M r _ _ from⟨aP,ao r oM⟩) (ao:∀a,a<J.heap.size->own a=0) (v.new aQ (fun i cA e=>oM):Upd (fun _=>False) w M) aR (show own m=0 from ao m (by have h1:=zd D;have h2:=bB.out;omega)) (show w.heap.size<=r/\0<w.heap.size/\1<w.heap.size from⟨U,aS,aT⟩);have ci:=qqh az;clear aw bH c9 bI L V ax aN an aO az aA aP bE u5 nib tur q G hsl A H D Q O v aa ak U aB cc cd ce cf aQ aR aS aT ao ab b7 bF;go_upto_region 11 with fail
 rw[<-ci.o];clear bJ cb;refine qZc (S:=fun ad=>ad.rangeAt m 0 Z/\ad.cell? ⟨r,3,none⟩=some (ptr s)/\ad.cell? ⟨r,4,none⟩=some (ptr E)) kR (⟨by rw[qYk];exact b4,by rw[qYi];exact b5,by rw[qYi];exact b6⟩) (fun ae=>?_);refine Wl.i [0] (Wl.t ae (Wl.o ?_));refine Wl.l 1 (fun w h=>h.1) bn bh ae ?_;refine Wl.i [2,3,4,5,6,7,8,9] ?_;iterate 8 refine Wl.t ae ?_
 refine Wl.o ?_;refine Wl.r 10 (fun K p=>?_);go_simp
 refine ch.o.mono ?_;rintro e W ⟨rfl,bK,b8⟩;have aC:=aq.o.1.kL b8 bK;have X:=aq.o.2.1.trans (aq.o.1.did2 b8);obtain⟨cB,bL⟩:=qqe (grow own 2 M.drew.heap.size W.heap.size);rw[<-bL]at aC X;have af:=aq.o.2.2.1.did X;have cj:=X.upd.range b4 (fun e=>e.1 aq.o.2.2.2.2.2.2.1);have bM:W.cell? ⟨r,3,none⟩=some (ptr s):=af.cell 3;have bN:W.cell? ⟨r,4,none⟩=some (ptr E):=af.cell 4;have ag:=Y3 aC X af;clear bK b8 bL aC X af;refine p.o _ _ (⟨cj,bM,bN⟩) (fun aU=>?_);clear p K;refine Wl.r 11 (fun K p=>?_);go_simp
 refine p.o _ _ (aU) (fun b9=>?_);clear p K;refine Wl.d ?_;go_upto_region 14 with fail
 have aV:=(uur (fun _=>False) W).drew;obtain⟨nib,tur,q,G,hsl,-⟩:=ai.o;have aJ:=qqh (EO q hsl (fun cC cl=>zbs n q G (ag.out.1.new (aV.trans cl))) (ag.out.1.new aV).far);have co:=ag.out.1.ko aV;have bO:W.rangeAt r 0 polC:=fun a u b=>(zg ag.out.2.2.1) a u (by
  have aD:=(qym.1 b).1;replace aD:a<3:=aD;rcases(show a=0\/a=1\/a=2 by omega)with rfl|rfl|rfl<;>exact b)
 clear nib tur q G hsl aV b5 b6 b4;refine qZc (S:=fun ad=>ad.cell? ⟨r,3,none⟩=some (ptr s)/\ad.cell? ⟨r,4,none⟩=some (ptr E)/\ad.rangeAt r 0 polC) kR (⟨by rw[qYi];exact bM,by rw[qYi];exact bN,by rw[qYk];exact bO⟩) (fun ae=>?_);refine Wl.i [0,1,2,3,4,5,6,7,8,9,10,11] ?_;iterate 12 refine Wl.t ae ?_
 refine Wl.o ?_;refine Wl.l 12 (fun w h=>h.2.2) underlying46 tM ae ?_;refine Wl.r 13 (fun K p=>?_);go_simp
 refine aJ.o.mono ?_;rintro e F ⟨k,N,bb,aW,rfl,aE,ar,aF,au,Y,bP⟩;have ah:=co.trans bP;have j:=ag.out.2.2.did ah;have cp:F.cell? ⟨r,3,none⟩=some (ptr s):=j.cell 3;have cq:F.cell? ⟨r,4,none⟩=some (ptr E):=j.cell 4;have cD:F.cell? ⟨r,5,none⟩=some (.pointer none):=j.cell 5;have cE:=zf j.1 5;have cr:F.rangeAt r 0 polC:=ah.upd.range bO (fun e=>e.1 ag.out.2.2.2);have aX:=zh j.1 5 (ptr k);have ct:(F.setCell ⟨r,5,none⟩ (ptr k)).cell? ⟨r,3,none⟩=some (ptr s):=za aX 3;have cu:(F.setCell ⟨r,5,none⟩ (ptr k)).cell? ⟨r,4,none⟩=some (ptr E):=za aX 4;have cv:(F.setCell ⟨r,5,none⟩ (ptr k)).rangeAt r 0 polC:=fun a u b=>(zg aX) a u (by have aD:=(qym.1 b).1;replace aD:a<3:=aD;rcases(show a=0\/a=1\/a=2 by omega)with rfl|rfl|rfl<;>exact b);have cx:=Y7 aE ar aF au Y ah j;clear aE ar aF au Y bP ah j aX;refine p.o _ _ (⟨cp,cq,cr⟩) (fun aU=>?_);clear p K;refine Wl.i [14,15,16,17,18] ?_;iterate 5 refine Wl.t aU ?_
 refine Wl.o ?_;refine Wl.r 19 (fun K p=>?_);go_simp
 refine p.o _ _ (⟨ct,cu,cv⟩) (fun b9=>?_);clear p K;refine Wl.r 20 (fun K p=>?_);go_simp
 refine p.o _ _ (b9) (fun cF=>?_);clear p K;refine Wl.d ?_;obtain⟨aE,ar,aF,au,Y,ah,j⟩:=cx.o;obtain⟨aC,X,af⟩:=ag.out;obtain⟨-,-,bo,bQ,bc,aR,cy,U,aS,aT⟩:=aq.o;have aY:=zi F r 5 (ptr k);have bd:=X.trans ah;have be:∀a,a<w.heap.size->own a=0:=fun a b=>bQ a oM;have cz:=qqh (show RunAt aW (F.setCell ⟨r,5,none⟩ (ptr k)) r k N n bb (attS n) 0 false/\Below w.heap.size w (F.setCell ⟨r,5,none⟩ (ptr k))/\(∀a,a<w.heap.size->aW a=0)/\w.heap.size<=r/\(w.heap.size<=k/\w.heap.size<=N.lb/\w.heap.size<=N.mb)/\L3At aW (F.setCell ⟨r,5,none⟩ (ptr k)) N.li N.lc N.lf n bb.ssd from
  ⟨⟨aE.box ⟨j.1,j.2⟩ de de ⟨oM,oM⟩ aY,by rw[ar,aF];exact zh j.1 5 (ptr k),j.2⟩,
   zj (zj (Upd.below bc) bd.upd (qXp _) (fun bR bf=>Nat.le_of_not_lt fun hlt=>bf.1 (be bR hlt))) aY (qXp _) (fun bR bf=>by rw[bf];exact U),
   fun a b=>(bd.old a (qXs b bc.size)).trans (be a b),U,(by have h1:=zd af.1;replace au:W.heap.size<=k/\W.heap.size<=N.lb/\W.heap.size<=N.mb:=au;omega),by
    rw[ar];refine Y.keep aY (fun a b _=> .inr ?_);replace b:a=r:=b;rw[b];refine⟨fun e=>?_,fun e=>?_,fun e=>?_⟩
    .have h1:=Y.i.str;rw[<-e,j.1]at h1;cases h1
    .have h1:=Y.c.str;rw[<-e,j.1]at h1;cases h1
    .have h1:=Y.f.str;rw[<-e,j.1]at h1;cases h1⟩)
 clear aE ar aF au Y ah j aC X af bo bQ bc aR cy U aS aT aY bd be ae aU b9;go_wp2
 go_ret2
 exact⟨aW,r,k,N,bb,rfl,cz.o⟩
end Go.Proofs.YtpejdgiccaijfaaGreatDoor
