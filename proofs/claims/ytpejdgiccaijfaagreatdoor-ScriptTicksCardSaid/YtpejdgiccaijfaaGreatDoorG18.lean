/- A cache: Check -/
import Derived.Test.YtpejdgiccaijfaaGreatDoorG14
import Derived.Test.YtpejdgiccaijfaaGreatDoorG16
import Derived.Test.YtpejdgiccaijfaaGreatDoorG15
set_option maxRecDepth 100000
set_option maxHeartbeats 4000000
namespace Go.Proofs.YtpejdgiccaijfaaGreatDoor
open Go Go.RowKit Tryz
variable{N:Nat}{n:CaN}{w:World}{k:Int}
section
open Go.Shelf
attribute [local go_sem] qYb
def CaS.ent(a:CaS)(x:It9):Ent:=⟨x.1,x.2.1.toNat,x.2.2,(a.sums x.1).getD 0⟩
def CaS.ents(n:CaN)(a:CaS):List Ent:=(vis (spanL a.ps 0 n.bl) 0).map a.ent
def CaS.fd(a:CaS):CaS:=a.dev (flushR a.dF a.dO a.dP)
def CaS.svR(n:CaN)(a:CaS):DRes:=saveR a.dF a.dO a.dP (ckO (1+(1-a.which)*n.pa) n.pa (pagesB (a.next-1) (a.ents n)))
def CaS.ckd(n:CaN)(a:CaS):CaS:={a.dev (a.svR n)with which:=1-a.which,cov:=a.next-1,W:=[],st:=freeTo a.st (pos a.st 3)}
def CaS.ckpt(n:CaN)(a:CaS):CaS×Int:=
 if(flushR a.bF a.bO a.bP).cd≠0 then(a.fb,(flushR a.bF a.bO a.bP).cd)
 else if(flushR a.fb.dF a.fb.dO a.fb.dP).cd≠0 then(a.fb.fd,(flushR a.fb.dF a.fb.dO a.fb.dP).cd)
 else if(a.fb.fd.svR n).cd≠0 then(a.fb.fd.dev (a.fb.fd.svR n),(a.fb.fd.svR n).cd)else(a.fb.fd.ckd n,0)
theorem wE(F:List Bk)(O:List (Nat×Bk))(P:List Int):(flushR F O P).O.length<=O.length:=by
 unfold flushR;repeat' split
 all_goals simp
theorem JT{b:List (Int×Bool)}{fr:Nat}{x:It9}(h:x∈vis b fr):∃k,∃s:k<b.length,x=(fr+k,b[k])/\b[k]≠(-1,false):=by
 have:∀m,m<=b.length->x∈visTo b fr m->∃k,∃s:k<b.length,x=(fr+k,b[k])/\b[k]≠(-1,false):=by
  intro m
  induction m with
  |zero=>intro _ h;cases h
  |succ m q=>
   intro v h;by_cases j:b[m]=(-1,false)
   .rw [wS oM j]at h;exact q oM h
   .rw [vV oM j]at h;rcases qzm.1 h with h|h
    .exact q oM h
    .simp at h;exact⟨m,oM,h,j⟩
 exact this _ (qXp _) h
theorem wF:∀(n:Nat) (l:List Nat),l.Nodup->(∀x∈l,x<n)->l.length<=n
 |0,l,_,h=>by
  cases l with
  |nil=>exact qXp _
  |cons x l=>exact absurd (h x oe) oM
 |n+1,l,b,h=>by
  by_cases j:n∈l
  .have h1:=wF n (l.erase n) (b.erase n) (fun x hx=>by
    have h2:=(b.mem_erase_iff).1 hx;have:=h x h2.2;have:=h2.1;omega)
   rw[List.length_erase_of_mem j]at h1;omega
  .have h1:=wF n l b (fun x hx=>by
    have:=h x hx;have:x≠n:=fun e=>j (e▸hx);omega)
   omega
theorem zdm{ps:List (Int×Bool)}{s:Nat}(h:Good ps s)(m:Nat):(vis (spanL ps 0 m) 0).length<=s:=by
 have H:∀k (v:k<(spanL ps 0 m).length),∃h:k<ps.length,(spanL ps 0 m)[k]=ps[k]:=fun k v=>⟨by simp[spanL]at v;omega,by simp[spanL]⟩
 have J:∀k,k<=(spanL ps 0 m).length->((visTo (spanL ps 0 m) 0 k).map (fun x=>x.2.1.toNat)).Nodup/\∀x∈visTo (spanL ps 0 m) 0 k,∃b,∃j:b<ps.length,b<k/\x.2=ps[b]/\0<=ps[b].1/\ps[b].1<s:=by
  intro k
  induction k with
  |zero=>exact fun _=>⟨qzy,fun x hx=>by cases hx⟩
  |succ k L=>
   intro v;obtain⟨h1,h2⟩:=L oM;by_cases A:(spanL ps 0 m)[k]=(-1,false)
   .rw [wS oM A];exact⟨h1,fun x hx=>by obtain⟨b,j,E,q⟩:=h2 x hx;exact⟨b,j,oM,q⟩⟩
   .rw [vV oM A];obtain⟨D,e⟩:=H k oM;have M:=(h.each k D).resolve_left (by rw[<-e];exact A);refine⟨?_,fun x hx=>?_⟩
    .rw [qzh,qzw];refine⟨h1,oe,?_⟩;intro u O T F Q;subst Q;obtain⟨x,hx,rfl⟩:=qzr.1 O;obtain⟨b,j,E,q,G,S⟩:=h2 x hx;simp only[qzi,qzk,qzu]at F;rw[q,e]at F;have:=h.inj b k j D G oM;omega
    .rcases qzm.1 hx with hx|hx
     .obtain ⟨b,j,E,q⟩:=h2 x hx;exact⟨b,j,oM,q⟩
     .simp at hx;subst hx;exact⟨k,D,oM,e,M⟩
 obtain⟨h1,h2⟩:=J _ (qXp _);have:=wF s _ h1 (fun x hx=>by
  obtain⟨y,hy,rfl⟩:=qzr.1 hx;obtain⟨b,j,-,q,G,S⟩:=h2 y hy;rw[q];omega)
 rwa[qzc]at this
section
variable{own own':Nat->Nat}{w w':World}{c:Nat}{n:CaN}{p:CaP}{a:CaS}
theorem JU(h:CaAt own w c n p a)(O:a.dO.length<=50000)(seq wh:Nat)(v:wh<=1)(b:Option Addr)(k j:Nat)(E:List Ent)(A:E.length=k)(D:needN k<=n.pa)(F:k<=100000)
  (G:∀q,Below w.heap.size w q->Calls prog 130 #[.int .i64 (seq:Int),.slice b k j] q (xI q seq E)):
  Calls prog 52 #[ptr p.ssd,.int .i64 1,.int .i64 (n.pa:Int),.int .i64 (wh:Int),.int .i64 (seq:Int),.slice b k j] w
   (zt own w c n p (a.dev (saveR a.dF a.dO a.dP (ckO (1+wh*n.pa) n.pa (pagesB seq E)))) (.int .i64 (saveR a.dF a.dO a.dP (ckO (1+wh*n.pa) n.pa (pagesB seq E))).cd)):=by
 have H:=h.ok.z;have J:=h.fl;have Q:=h.ok.s1;have S:=h.ok.p2;unfold CaN.size at H J;exact(JC h.kP (fun _ h=> .inr h) 1 n.pa seq wh v b k j E A D F oM oM G).mono fun _ _ ⟨L,M,s⟩=>⟨L,_,h.kL s M (Re _ _ _ _),h.did2 s⟩
def CkI(a:CaS)(wz:World)(lb:Nat){qs:List (Int×Bool)}(pre:List (ItM qs 0))(W:World):Prop:=
 Upd (fun j=>j=lb\/wz.heap.size<=j) wz W/\∃v,W.heap[lb]?=some (.cells #[v] 146 (0,0))/\Sl W 155 4 v pre.length ((pre.map (fun x=>a.ent x.1)).flatMap entC)/\From wz.heap.size v/\(pre=[]->v=.slice none 0 0)
theorem Sl.cellsAt{e:TypeId}{k n:Nat}{v:Value}{xs:List Value}(h:Sl w e k v n xs){g:Nat}(b:v.ownBlock=some g):∃cs t z,w.heap[g]?=some (.cells cs t z):=by
 obtain⟨-,⟨rfl,-⟩|⟨q,s,A,D,rfl,j,-⟩⟩:=h
 .cases b
 .cases b;exact⟨_,_,_,j⟩
theorem zaH:(prog.info? 155).map (fun i=>(i.zero.map (·.cells.size),i.size,i.bytes))=some (some 4,4,32):=kR
theorem Zm:∃i z,prog.info? 155=some i/\i.zero=some z/\z.cells.size=4/\i.size=4/\i.bytes=32:=by
 obtain⟨i,h,b⟩:=qYc.1 zaH;simp only[qYe]at b;obtain⟨h1,h2,j⟩:=b;obtain⟨z,q,s⟩:=qYc.1 h1;exact⟨i,z,h,q,s,h2,j⟩
theorem Zcg181{P:Prop}(h:P:=by
  refine s.o _ _ (cl.out) (fun _=>?_);clear s K;refine Wl.r 14 (fun K s=>?_);refine zV rfl _ _ _ rfl rfl rfl ao.o.1 ?_;refine s.o _ _ (dq.o) (fun _=>?_);clear s K;refine Wl.r 15 (fun K s=>?_);go_simp
  rw[<-ao.o.2.2.2];refine s.o _ _ (dr.o) (fun _=>?_);clear s K;refine Wl.d ?_
  gi_wp2
  exact dn.o):P:=h
theorem YM(h:CaAt own w c n p a)(cC:∀k X,a.sums k=some X->X<=4294967295)(cD:a.dO.length<=50000):
  Calls prog 95 #[ptr c] w (zt own w c n p (a.ckpt n).1 (.int .i64 (a.ckpt n).2)):=by
 obtain⟨w1,b5⟩:=qqe (w.alloc (.cells #[ptr c] 98));have bB:=qqu b5;have h1:=h.new bB;have ax:Box own w1 w.heap.size (.cells #[ptr c] 98):=by rw[b5];exact Box.made h.far _
 have aM:=h.ko bB;have ay:=Y3 h cC cD;have cE:=h.clt;obtain⟨-,dT,-⟩:=h.cells;have cF:=Y3 h1 ax aM;have cG:=qqh (xi h1);have D:a.ckpt n=a.ckpt n:=rfl
 conv at D=>rhs;unfold CaS.ckpt
 obtain⟨R,cH⟩:=qqe (a.ckpt n);rw[<-cH]at D⊢;clear h cC cD h1 ax aM bB cH;generalize dU:(flushR a.bF a.bO a.bP).cd=ak at*;replace D:=qqh D;refine(callsIn_wide (n:=3)).1 ?_;refine callsIn_of_wp_marks func95 rfl trivial ?_ rfl;simp only[ntmps95,qXi,qza,qzd,Nat.reduceAdd,Nat.reduceSub,qxi,qxj,qXc,qxy,qzv,qxz];refine wpIn_wide.2 ?_;go_wp2_with fail
 rw[<-b5];clear b5 dT;refine cG.o.mono ?_;rintro e dV ⟨rfl,dW,az,bC⟩;replace az:CaAt dW dV c n p a.fb:=az;obtain⟨h1,ax,aM⟩:=cF.o;have aA:=ax.did bC;have b6:=az.cells.1;have a7:=za aA.1 0;have b7:=Y3 az aA (aM.trans bC);have bD:=qqh (Yu az);clear az bC aA h1 ax aM cG cF dU;by_cases J:ak=0
 rotate_left
 .have b8:(ak==0)=false:=by simpa using J
  go_wp2_with fail
  obtain⟨h2,-,aB⟩:=b7.o;have ad:=D.out;rw[if_pos J]at ad;rw[ad];clear a7 b6 bD b7 cE ay b8;exact⟨_,results_tmp rfl _ _ _,rfl,_,h2,aB⟩
 subst J;replace D:=D.out;rw[if_neg oe]at D;generalize (flushR a.fb.dF a.fb.dO a.fb.dP).cd=ak at*;replace D:=qqh D;go_wp2_with fail
 refine bD.o.mono ?_;rintro e aC ⟨rfl,ae,b9,bE⟩;replace b9:CaAt ae aC c n p a.fb.fd:=b9;obtain⟨h2,aA,aB⟩:=b7.o;have aN:=aA.did bE;have bG:=Y3 b9 aN (aB.trans bE);clear b9 bE aN h2 aA aB bD b7 b6 a7;by_cases J:ak=0
 rotate_left
 .have b8:(ak==0)=false:=by simpa using J
  go_wp2_with fail
  obtain⟨h2,-,aB⟩:=bG.o;have ad:=D.out;rw[if_pos J]at ad;rw[ad];clear bG cE ay b8;exact⟨_,results_tmp rfl _ _ _,rfl,_,h2,aB⟩
 subst J;replace D:=D.out;rw[if_neg oe]at D;replace D:=qqh D;go_wp2_with fail
 obtain⟨aO,aN,bH⟩:=bG.o;obtain⟨aq,ba⟩:=qqe (aC.alloc (.cells #[.slice none 0 0] 146));have bb:Upd (fun _=>False) aC aq:=by rw[ba];exact((uur _ aC).alloc _)
 have E:Upd (fun _=>False) aq aq.drew:=(uur _ aq).drew;have v:=aO.new bb;have L:=aN.new bb;have bI:Box ae aq aC.heap.size (.cells #[.slice none 0 0] 146):=by rw[ba];exact Box.made aO.far _
 have Q:=bH.trans (aO.ko bb);obtain⟨A,bJ⟩:=qqe (aC.heap.size);rw[<-bJ]at bI;have dX:=qqh (show w.heap.size<=A by have:=bH.upd.size;omega);have af:=Y4 (v.new E) (L.new E) (bI.new E) (Q.trans (v.ko E));obtain⟨eQ,eR,bK,dY,dZ⟩:=(v.new E).ix;have cI:=v.pl;have bc:=Y3 bK.good v.ok.s2 v.ok.b2;have ax:=ay.o.1.ok.b1;have cJ:=zcB bK 0 n.bl (by rw[cI];omega);have e0:=qqh cJ;obtain⟨-,-,-,-,e1,-⟩:=v.cells;have e2:=v.sup.2.1;have a7:=za L.1 0;rw[<-ba,<-bJ];clear aO aN bH bb v L bI Q bK dY dZ cJ ba E bJ
 go_still_tail 10,kR
 change wpList _ _ _ _ _ aq.drew
 generalize aq.drew=aP at*;clear e1 e2 a7;go_wp2_with fail
 refine e0.o.mono ?_;rintro e H ⟨cK,cL,g,bL,bM,rfl,⟨eS,eT,eU⟩,e3,e4,F,aD,cM,bd,ag⟩;go_wp2_with fail
 have be:(spanL a.ps 0 n.bl).length<=4096:=by
  have:=ay.o.1.ok.b2;simp[spanL];omega
 have e5:a.fb.fd.ps=a.ps:=rfl;rw[e5]at aD bd cI bc;have bf:∀k (h:k<(spanL a.ps 0 n.bl).length),(spanL a.ps 0 n.bl)[k]=(-1,false)\/(0<=(spanL a.ps 0 n.bl)[k].1/\(spanL a.ps 0 n.bl)[k].1<n.sl):=by
  intro k ah;have:(spanL a.ps 0 n.bl)[k]=a.ps[k]'(by simp[spanL]at ah;omega):=by simp[spanL]
  rw[this];exact bc.out.1.each k _
 have eV:=ag.size;have eW:A<aP.heap.size:=zd af.o.2.2.1.1;have cN:ae A=0:=af.o.2.2.1.2;have bN:Hid (Upd (fun _=>False) aP H):=uuo ag;have e6:(vis (spanL a.ps 0 n.bl) 0).length<=4096:=qXr (qc _ _ _) be;obtain⟨ar,bg⟩:=qqe (spanL a.ps 0 n.bl);rw[<-bg]at aD bd be bf e6;have e7:ar.length=n.bl:=by rw[bg];simp[spanL];omega
 have bh:=Y4 bf bc.out.2 e7 bg;obtain⟨v,L,-,Q⟩:=af.o;have au:∀b,(b=A\/H.heap.size<=b)->ae b=0/\b≠0/\b≠1:=by
  intro b G;have eX:=v.nib.lt;have eY:=v.tur.lt;have eZ:=v.on;rcases G with rfl|G
  .refine ⟨cN,fun e=>?_,fun e=>?_⟩
   .have h2:=za (af.o.2.2.1.1) 0;rw[e]at h2;have:=h2.symm.trans (v.nib.c 0 de);simp at this
   .have h2:=za (af.o.2.2.1.1) 0;rw[e]at h2;have:=h2.symm.trans v.tur.c0;simp at this
  .exact ⟨v.far b oM,oM,oM⟩
 have bi:w.heap.size≠A:=by
  intro e;have:=L.1;rw[e]at this;have:=this.symm.trans af.o.2.2.1.1;simp at this
 have bj:=Y2 au bi;clear v L Q au bi;refine(wpIn_wide (n:=4)).1 ?_
 refine' wpIn_rangeFunc_ownH rfl oM (gf:=229) (lb:= #[.pointer (some ⟨cK,0,none⟩),.pointer (some ⟨cL,0,none⟩)]) rfl trivial (enters_of func229 kR rfl)
  (ZK _ oM (fun b=>b=A\/H.heap.size<=b) cK cL g bL bM ar 0 H be oM (fun k ah=>(bf k ah).imp id And.left) F e4 e3 oM oM aD cM bd) uy (fun j l o e8 cO=>wL (M:=H.heap.size) (fun b h=> .inr h) j l o e8 cO) (qxl _ _) (fun _=>rfl)
  (CkI a H A)
  (fun _ _ _=>False)
  (fun T ai cP bQ q F aQ=>by
   obtain⟨hu,X,Y,q,Z,bR⟩:=q;exact⟨yJ hu F (fun r e=> .inr (aQ r e).1),X,(grownBy_keeps_cells F (fun r e=>(aQ r e).2) Y rfl).trans Y,
    q.keep (Upd.kC (S:=fun b=>bQ=some b) F (fun g e _=>e)) (fun g e9 e=>by
     obtain⟨o,bS,J⟩:=(aQ g e).2;obtain⟨cs,t,z,aD⟩:=q.cellsAt e9;rw[aD]at bS;cases bS;cases J),Z,bR⟩)
  (fun _ _ _ _ _ q _ _=>q)
  ⟨uur _ _,_,bN.o.j4 af.o.2.2.1.1,Sl.nil _ _ _,From.nil _ _ _,fun _=>rfl⟩
  (fun x bT j=>∃pb,bT=(_:ItM ar 0->Nat->Act) x pb/\SU x.1 pb j)
  (fun x bT=>fun f0 ai cP bQ q F aQ=>by obtain⟨pb,e,aE⟩:=q;exact⟨pb,e,ZL _ x.1 pb () ai cP bQ aE F aQ⟩)
  ?assign ?body ?done ?stop
 case assign=>
  rintro l T x j K ⟨hu,X,Y,q,Z,bR⟩ s
  gi_wp2
  have bn:Upd (fun _=>False) j (j.alloc (.cells #[.int .i64 x.1.2.1,.bool x.1.2.2] 256)):=(uur _ _).alloc _;have ea:=World.grownBy_alloc j (.cells #[.int .i64 x.1.2.1,.bool x.1.2.2] 256) none;refine s _ _ (KeepsFrom.of_grownBy ea (fun b e=>by cases e)) (bn.mono fE) ⟨hu.trans (bn.mono fE),X,bn.j4 Y,q.keep bn (fun _ _ h=>h),Z,bR⟩ ⟨j.heap.size,?_,zc j _ rfl⟩;generalize j.heap.size=pb;exact rfl
 case stop=>
  rintro aR c T j _ _ h _;exact h.elim
 case body=>
  rintro l T ⟨⟨U,V,a8⟩,hx⟩ bT j cO _ ⟨hu,X,Y,q,Z,-⟩ ⟨pb,rfl,aE⟩ hlt;have eb:U<4096/\0<=V/\V<n.sl:=by
   obtain⟨k,ah,e,bU⟩:=JT hx;simp only[qYe]at e;obtain⟨rfl,aa⟩:=e;have:=(bh.o.1 k ah).resolve_left bU;rw[<-aa]at this;exact⟨oM,this⟩
  obtain⟨f1,ec,f2⟩:=eb;obtain⟨v,L,-,Q⟩:=af.o;have au:=bj.o.1;have bi:=bj.o.2;have ed:pb≠A:=by
   intro e;have h2:j.heap[pb]?=_:=aE;rw[e]at h2;have:=h2.symm.trans Y;simp at this
  have cQ:∀g,X.ownBlock=some g->g≠pb:=by
   intro g F e;obtain⟨-,⟨rfl,-⟩|⟨av,bL,bM,ee,rfl,cR,-⟩⟩:=q
   .cases F
   .cases F;replace e:av=pb:=e;rw[e]at cR;have:=cR.symm.trans (show j.heap[pb]?=_ from aE);simp at this
  have cT:∀g,X.ownBlock=some g->g≠A:=fun g F e=>by have:=Z g F;omega
  obtain⟨aF,bp⟩:=qqe ((a.sums (U:Int)).getD 0);have aS:∀ai,Upd (fun b=>b=A\/H.heap.size<=b) aP ai->ai.cell? ⟨w.heap.size,0,none⟩=some (ptr c)/\ai.cell? ⟨c,22,none⟩=some (.map (some p.sm))/\(Instr.lookup 168 (.map (some p.sm)) (.int .i64 (U:Int)) false).run prog ai=.ok (.int .i64 (aF:Int)) ai:=by
   intro ai cU;have cV:=v.ky cU au;obtain⟨-,-,-,-,-,-,-,-,ef⟩:=cV.cells;refine⟨za ((cU.block _ (zd L.1) (fun q=>by
    rcases q with q|q
    .exact bi q
    .have:=zd L.1;omega)).trans L.1) 0,ef,?_⟩
   rw[bp];exact cV.sm.1.look1 oM oM
  have am:Upd (fun b=>b=A\/H.heap.size<=b) aP j:=(bN.o.mono fE).trans hu;obtain⟨bq,bV⟩:=qqe (j.drew);have E:Upd (fun _=>False) j bq:=by rw[bV];exact(uur _ j).drew
  have bW:=am.trans (E.mono (S':=fun b=>b=A\/H.heap.size<=b) (fun _ _ h=>h.elim));obtain⟨cW,br⟩:=qqe (bq.alloc (.cells #[.int .i64 (U:Int),.int .i64 V,.bool a8,.int .i64 (aF:Int)] 155));have aj:=qqu br;have bX:=bW.trans (aj.mono (S':=fun b=>b=A\/H.heap.size<=b) (fun _ _ h=>h.elim));have cX:=qqg br;obtain⟨eg,z0,bY,bZ,cY,cZ,d0⟩:=Zm;have c3:=(q.keep E (fun _ _ h=>h)).keep aj (fun _ _ h=>h);have f3:T.length<=4096:=oM;obtain⟨f4,w',d1,c4,aG,d2⟩:=xh (P:=prog) (m:=1) (x':=.slice (some ⟨bq.heap.size,0,none⟩) 1 1) (news:=[.int .i64 (U:Int),.int .i64 V,.bool a8,.int .i64 (aF:Int)]) 146 146 eg z0 32 underlying146 bY bZ cZ d0 cY de c3
   ⟨rfl,de,_,_,rfl,(fun h=>by cases h),fun c5 aT b u G=>by cases aT;rw[qxa,za cX];simpa using G⟩ jk (by simp only[maxLen];omega) oM
  obtain⟨c6,c7,eh⟩:=c4.rd.j6;subst eh;have c8:=bX.trans (aG.mono (S':=fun b=>b=A\/H.heap.size<=b) (fun b _ G=> .inr (Z b G)));obtain⟨W,bs⟩:=qqe (w'.setCell ⟨A,0,none⟩ (.slice c6 (T.length+1) c7));have aH:Upd (fun b=>b=A) w' W:=by rw[bs];exact zi _ _ _ _
  have d3:=c8.trans (aH.mono (S':=fun b=>b=A\/H.heap.size<=b) (fun b _ G=> .inl G));have gd:bq.heap[pb]?=some (.cells #[.int .i64 V,.bool a8] 256 (0,0)):=E.j4 aE;have aU:=aj.j4 gd;have av:=(aG.block pb (zd aU) (fun h=>cQ pb h rfl)).trans aU;have c9:=(aH.block pb (zd av) ed).trans av;have cb:=E.j4 Y;have bt:=aj.j4 cb;have aV:=(aG.block A (zd bt) (fun h=>cT A h rfl)).trans bt;have d4:W.heap[A]?=some (.cells #[.slice c6 (T.length+1) c7] 146 (0,0)):=by rw[bs];exact zh aV 0 _
  have cc:=za gd 0;have cd:=za gd 1;have ca0:=za aU 0;have ce:=za aU 1;have cf:=za av 0;have ch:=za av 1;have ci:=za c9 0;have cj:=za c9 1;have ei:=za cb 0;have ej:=za bt 0;have ek:=za aV 0;have f8:=zf aV 0;simp at cc cd ca0 ce cf ch ci cj ei ej ek;have d5:KeepsOthers j W:=by
   have an:KeepsOthers j cW:=⟨by have h1:=E.size;have h2:=aj.size;omega,fun k o ah bS=>aj.j4 (E.j4 ah)⟩
   have aa:KeepsOthers cW w':=zD aG (fun b G _=>c3.cellsAt G);exact(an.trans aa).trans (zD aH (fun b G _=>⟨_,_,_,G▸aV⟩))
  have d6:KeepsFrom H.heap.size j W/\Upd (fun b=>b=A\/H.heap.size<=b) j W/\CkI a H A (T++[(⟨(U,V,a8),hx⟩:ItM ar 0)]) W:=by
   have d7:Upd (fun b=>b=A\/H.heap.size<=b) j W:=(((E.mono fE).trans (aj.mono fE)).trans (aG.mono (fun b _ G=> .inr (Z b G)))).trans (aH.mono (fun b _ G=> .inl G));have d8:From H.heap.size (.slice c6 (T.length+1) c7):=by
    intro g F;rcases d2 with e|⟨f9,e,hge⟩
    .rw [e]at F;exact Z g F
    .rw [e]at F;cases F;have h1:=hu.size;have h2:=E.size;have aO:=aj.size;omega
   refine⟨d5.from _,d7,hu.trans d7,_,d4,?_,d8,fun e=>by simp at e⟩;have el:=c4.keep aH (fun g F e=>by have:=d8 g F;omega);have em:entC (a.ent (U,V,a8))=[.int .i64 (U:Int),.int .i64 V,.bool a8,.int .i64 (aF:Int)]:=by
    unfold entC CaS.ent;simp only;rw[<-bp,Int.toNat_of_nonneg ec]
   have en:(T++[(⟨(U,V,a8),hx⟩:ItM ar 0)]).length=T.length+1:=oe;have eo:((T++[(⟨(U,V,a8),hx⟩:ItM ar 0)]).map (fun x=>a.ent x.1)).flatMap entC=(T.map (fun x=>a.ent x.1)).flatMap entC++[.int .i64 (U:Int),.int .i64 V,.bool a8,.int .i64 (aF:Int)]:=by
    rw[qzh,qye,<-em];simp
   rw[en,eo];exact el
  obtain⟨d9,da,db⟩:=aS _ bW;obtain⟨dc,dd,df⟩:=aS _ bX;obtain⟨dg,dh,di⟩:=aS _ c8;obtain⟨dj,dk,dm⟩:=aS _ d3;have dn:=qqh d6;replace bp:=qqh bp;have dp:=Y5 d9 da cc cd db;have cl:=Y5 dc dd ca0 ce df;have dq:=Y5 dg dh cf ch di;have dr:=Y5 dj dk ci cj dm;have ao:=Y4 d1 br bV bs;clear d6 d9 da db dc dd df dg dh di dj dk dm d1 br bV bs d5 d4 aV bt cb c9 av aU gd d3 aH c8 d2 aG c4 c3 cX bX aj bW E am aS au cQ cT q Z Y aE v L Q hu bY bZ cY cZ d0 cc cd ca0 ce cf ch ci cj
  gi_wp2
  refine wT (S:=fun j=>j.cell? ⟨w.heap.size,0,none⟩=some (ptr c)/\j.cell? ⟨c,22,none⟩=some (.map (some p.sm))/\j.cell? ⟨pb,0,none⟩=some (.int .i64 V)/\j.cell? ⟨pb,1,none⟩=some (.bool a8)/\(Instr.lookup 168 (.map (some p.sm)) (.int .i64 (U:Int)) false).run prog j=.ok (.int .i64 (aF:Int)) j) (by rintro⟨_,_,h⟩;exact h) kR kR (by rw[<-ao.o.2.2.1];exact dp.out) (fun _=>?_);rw[<-ao.o.2.2.1];have ds:=dp.out;refine Wl.i [1,2,3,4,5,6,7,8,9,10,11,12] ?_;iterate 12 refine Wl.t ds ?_
  refine Wl.o ?_;refine qYx (rs:=[0,13]) kR oe ?_;refine qxb rfl (fun K s=>?_) (qxb rfl (fun K s=>?_) qxc)
  .go_simp
   refine s.o _ _ (ds) (fun _=>?_);clear s K;refine Wl.r 13 (fun K s=>?_);go_simp
   rw[<-ao.o.2.1];exact Zcg181
  .go_simp
   rw[<-ao.o.2.1];refine s.o _ _ (cl.out) (fun _=>?_);clear s K;refine Wl.r 0 (fun K s=>?_);go_simp
   exact Zcg181
 case done=>
  rintro aR ab j fa dt ⟨hu,X,Y,q,Z,du⟩ s;have bu:ab.map (fun x=>a.ent x.1)=a.ents n:=by
   rw[show(fun x:ItM ar 0=>a.ent x.1)=a.ent∘(·.1)from rfl,<-qzj,dt,bh.o.2.2.2];rfl
  rw[bu]at q;have aW:(a.ents n).length=ab.length:=by rw[<-bu];simp
  have fc:ab.length<=n.sl:=by
   rw[<-aW];unfold CaS.ents;rw[qzc];exact zdm bc.out.1 _
  have dw:∀x∈a.ents n,XV x:=by
   intro x hx;rw[<-bu]at hx;obtain⟨⟨y,hy⟩,-,rfl⟩:=qzr.1 hx;obtain⟨k,ah,rfl,bU⟩:=JT hy;have h1:=(bh.o.1 k ah).resolve_left bU;have h2:=bh.o.2.1;refine⟨by simp only[CaS.ent];omega,by simp only[CaS.ent];omega,?_⟩;simp only[CaS.ent];cases J:a.sums ((0+k:Nat):Int)with
   |none=>simp
   |some m=>exact ay.o.2.1 _ _ J
  obtain⟨v,L,-,Q⟩:=af.o;have am:Upd (fun b=>b=A\/H.heap.size<=b) aP j:=(bN.o.mono fE).trans hu;have O:=v.ky am bj.o.1;have ag:Box ae j w.heap.size (.cells #[ptr c] 98):=⟨(am.block _ (zd L.1) (fun q=>by
    rcases q with q|q
    .exact bj.o.2 q
    .have:=zd L.1;omega)).trans L.1,L.2⟩
  have aI:Box ae j A (.cells #[X] 146):=⟨Y,cN⟩
  have aX:Box ae j aR (.deferred (some [])):=⟨s,v.far aR oM⟩
  have aY:Did own ae w j:=⟨Q.upd.new am (fun i bY q=>by have h1:=dX.o;have h2:=Q.upd.size;rcases q with q|q<;>omega),Q.old,Q.new,fun b G=>Q.far b (by have:=am.size;omega)⟩
  obtain⟨co,cp,cq⟩:=q.rd.j6;have dx:∀aJ,Below j.heap.size j aJ->Calls prog 130 #[.int .i64 ((a.next-1:Nat):Int),.slice co ab.length cp] aJ (xI aJ (a.next-1) (a.ents n)):=by
   intro aJ bv;have fe:a.next<=1099511627777:=O.jr.good.mx;have dy:=O.nib.below bv;by_cases dz:ab=[]
   .have e:=du dz;rw[cq]at e;injection e with an aa cr
    have ep:a.ents n=[]:=qyc (by rw[aW,aa]);rw[an,aa,cr,ep];exact ZH _ oM dy
   .have er:0<ab.length:=List.length_pos_iff.2 dz;obtain⟨-,⟨-,e⟩|⟨g,bL,bM,ee,e,F,es,et,bZ,J⟩⟩:=q.keep (uuo (S:=fun _=>False) bv) (fun _ _ h=>h)
    .omega
    rw[cq]at e;injection e with an aa cr
    subst an cr;have hsl:=v.ok.s2;exact VH (a.ents n) aW er oM (fun b u G=>by rw[za F];exact J b u G) es et _ oM dw dy
  have ct:JnGood (1+2*n.pa) n.jo a.cov a.next a.W:=O.jr.good;have ff:1<=a.next:=by have:=ct.wl;omega
  have fg:a.next<=1099511627777:=ct.mx;have fh:a.which<=1:=O.wh;have eu:Hid (Calls prog 165 #[ptr p.jr] j fun e w'=>e=.returned (.int .i64 (a.next:Int))/\j=w'):=(ca_jnext O:)
  obtain⟨-,-,aZ,cu,-⟩:=O.cells;replace aZ:j.cell? ⟨c,16,none⟩=some (.int .i64 (a.which:Int)):=aZ;have a7:=za ag.1 0;have an:((1-a.which:Nat):Int)=1-(a.which:Int):=oM;have aa:((a.next-1:Nat):Int)=(a.next:Int)-1:=oM;have cv:=Y2 an aa;subst cq;have ew:=Y5 O ag aI aX aY;have dA:needN ab.length<=n.pa:=by have:=O.ok.p1;unfold needN;omega
  have dB:(a.fb.fd).dO.length<=50000:=qXr (wE _ _ _) ay.o.2.2;have bx:=Y4 dx aW dA dB;have fi:ab.length<=4096:=by have:=O.ok.s2;omega
  have dC:Hid (w.heap.size<=aR):=by show _<=_;have h1:=Q.upd.size;omega
  clear v L Q am O ag aI aX aY s ct an aa dx aW dA dB dw bu q Z Y dt du hu aD cM bd be bf bg;go_wp2_with fail
  refine eu.o.mono ?_;rintro e fj ⟨rfl,rfl⟩;go_wp2_with fail
  obtain⟨O,ag,aI,aX,aY⟩:=ew.o;have E:Upd (fun _=>False) j j.drew:=(uur _ j).drew;have cx:Calls prog 52 #[ptr p.ssd,.int .i64 1,.int .i64 (n.pa:Int),.int .i64 ((1-a.which:Nat):Int),.int .i64 ((a.next-1:Nat):Int),.slice co ab.length cp] j.drew (zt ae j.drew c n p (a.fb.fd.dev (a.fb.fd.svR n)) (.int .i64 (a.fb.fd.svR n).cd)):=JU (O.new E) bx.o.2.2.2 (a.next-1) (1-a.which) oM co ab.length cp (a.ents n) bx.o.2.1 bx.o.2.2.1 oM (fun aJ bv=>bx.o.1 aJ ((qxl _ j).drew.trans bv));obtain⟨c5,aT⟩:=qqe (a.fb.fd.dev (a.fb.fd.svR n));rw[<-aT]at cx;generalize (a.fb.fd.svR n).cd=ak at*;have ex:=qqh cx;have cy:=qqh aT;clear aT;have ey:=Y4 (ag.new E) (aI.new E) (aX.new E) (aY.trans (O.ko E));obtain⟨b6,-⟩:=O.cells;have ez:=O.lay.1;obtain⟨-,-,-,-,eA,-⟩:=O.sup;have eB:=za aI.1 0;clear O ag aI aX aY E cx aZ cu
  go_still_tail 17,kR
  change wpList _ _ _ _ _ j.drew
  generalize j.drew=fk at*;clear b6 ez eA eB a7;go_wp2_with fail
  rw[<-cv.o.1,<-cv.o.2];refine ex.o.mono ?_;rintro e W ⟨rfl,cz,aK,bz⟩;obtain⟨dD,eC,dE,dG⟩:=ey.o;have ap:=dD.did bz;have a6:=dE.did bz;have aw:=dG.trans bz;have fm:=aK.clt;have a7:=za ap.1 0;have aZ:=aK.cells.2.2.1;have eD:=aK.fz 16;have cu:=aK.cells.2.2.2.1;have au:w.heap.size≠c:=oM;have dH:=Y4 aK ap a6 aw;clear aK bz dD eC dE dG ap a6 aw;by_cases J:ak=0
  rotate_left
  .have b8:(ak==0)=false:=by simpa using J
   have ad:=D.out;rw[if_pos J,<-cy.out]at ad;have eE:=qqh ad;clear ad;go_wp2_with fail
   obtain⟨aL,-,a6,aw⟩:=dH.o;refine⟨oe,.inl ⟨_,_,rfl,run_takeDeferred a6.1,?_⟩⟩;have eF:=aL.putObj a6 rfl (.deferred none);have eG:=aw.putObj dC.out (.deferred none);rw[eE.o];exact⟨_,results_tmp rfl _ _ _,rfl,cz,eF,eG⟩
  subst J;replace D:=D.out;rw[if_neg oe]at D;replace D:=qqh D;go_wp2_with fail
  obtain⟨aL,ap,a6,aw⟩:=dH.o;have dI:=aL.turn1 (1-a.which) oM;have b0:=aw.trans (aL.did1 (.int .i64 ((1-a.which:Nat):Int)));have cA:=zi W c 16 (.int .i64 ((1-a.which:Nat):Int));have b3:Box cz (W.setCell ⟨c,16,none⟩ (.int .i64 ((1-a.which:Nat):Int))) w.heap.size (.cells #[ptr c] 98):=⟨(cA.block _ (zd ap.1) au).trans ap.1,ap.2⟩
  have b4:Box cz (W.setCell ⟨c,16,none⟩ (.int .i64 ((1-a.which:Nat):Int))) aR (.deferred (some [])):=⟨(cA.block _ (zd a6.1) (fun e=>by have:=a6.2;rw[e,aL.oc]at this;exact absurd this de)).trans a6.1,a6.2⟩
  generalize W.setCell ⟨c,16,none⟩ (.int .i64 ((1-a.which:Nat):Int))=fn at*;have dJ:c5.next=a.next:=by rw[cy.out];rfl
  have eH:=Y3 b3 b4 b0;have eI:=qqh (SZ dI ((a.next-1:Nat):Int) (by show _=(c5.next:Int)-1;rw[dJ];exact cv.o.2));clear aL ap a6 aw dI b0 cA b3 b4 a7 aZ eD cu dJ;refine eI.o.mono ?_;rintro e fq ⟨rfl,fr,dK,bA⟩;obtain⟨b3,b4,b0⟩:=eH.o;have dL:=b3.did bA;have a7:=za dL.1 0;have eJ:=Y2 (b4.did bA) (b0.trans bA);have eK:=qqh (Tc dK);clear b3 b4 b0 dL dK bA;go_wp2_with fail
  refine eK.o.mono ?_;rintro e ft ⟨rfl,eL,dM,cB⟩;obtain⟨dN,dQ⟩:=eJ.o;have eM:=Y3 dM (dN.did cB) (dQ.trans cB);clear dM cB dN dQ a7;go_wp2
  obtain⟨eN,dR,eO⟩:=eM.o;refine⟨oe,.inl ⟨_,_,rfl,run_takeDeferred dR.1,?_⟩⟩;have dS:=eN.putObj dR rfl (.deferred none);have eP:=eO.putObj dC.out (.deferred none);rw[D.out];refine⟨_,results_tmp rfl _ _ _,rfl,eL,?_,eP⟩;rw[cy.out]at dS;exact dS
end
end
theorem zt.from{b own:Nat->Nat}{h:World}{c:Nat}{p:CaP}{a:CaS}{v:Value}{f:FuncId}{args:Array Value}(j:Did b own h w)(q:Calls prog f args w (zt own w c n p a v)):Calls prog f args w (zt b h c n p a v):=
 q.mono fun _ _ ⟨s,own',A,D⟩=>⟨s,own',A,j.trans D⟩
structure CaS.Fit(a:CaS)(N:Nat):Prop where
 sm:∀k v,a.sums k=some v->v<=4294967295
 w1:∀q∈a.W,1<=q.1
 nx:a.next<=N
 iN:a.iN<=N
 kN:a.kN<=N
 mN:a.mN<=N
 dO:a.dO.length<=N
 bO:a.bO.length<=N
theorem CaS.Fit.mono{a:CaS}{M:Nat}(b:a.Fit N)(h:N<=M):a.Fit M:=
 ⟨b.sm,b.w1,qXr b.nx h,qXr b.iN h,qXr b.kN h,qXr b.mN h,qXr b.dO h,qXr b.bO h⟩
theorem CaS.Fit.fb{a:CaS}(h:a.Fit N):a.fb.Fit N:={h with bO:=qXr (wE _ _ _) h.bO}
theorem CaS.Fit.fd{a:CaS}(h:a.Fit N):a.fd.Fit N:={h with dO:=qXr (wE _ _ _) h.dO}
theorem zaI(F:List Bk)(O:List (Nat×Bk))(P:List Int)(L:List (Nat×Bk)):(saveR F O P L).O.length<=O.length+L.length:=by
 have h:=Jz F L O P;unfold saveR;split
 .exact qXr (wE _ _ _) h
 .exact h
theorem CaS.svR_O(n:CaN)(a:CaS):(a.svR n).O.length<=a.dO.length+n.pa:=by
 have:=zaI a.dF a.dO a.dP (ckO (1+(1-a.which)*n.pa) n.pa (pagesB (a.next-1) (a.ents n)))
 rwa[AW]at this
theorem CaS.Fit.ckpt{a:CaS}(b:a.Fit N):(a.ckpt n).1.Fit (N+n.pa):=by
 have h1:=b.fb;have h2:=h1.fd;have j:=a.fb.fd.svR_O n;have q:=h2.dO;unfold CaS.ckpt;split
 .exact h1.mono (qXo _ _)
 split
 .exact h2.mono (qXo _ _)
 split
 .exact {h2.mono (qXo N n.pa)with dO:=by show(a.fb.fd.svR n).O.length<=_;omega}
 .exact {h2.mono (qXo N n.pa)with dO:=(by show(a.fb.fd.svR n).O.length<=_;omega),w1:=fun s h=>by cases h}
def CaS.j7(n:CaN)(a:CaS):CaS×Int:=if a.next+1<=a.cov+n.jo then(a,0)else a.ckpt n
theorem CaS.Fit.j7{a:CaS}(h:a.Fit N):(a.j7 n).1.Fit (N+n.pa):=by
 unfold CaS.j7;split
 .exact h.mono (qXo _ _)
 .exact h.ckpt
section
variable{own:Nat->Nat}{w w':World}{c:Nat}{n:CaN}{p:CaP}{a:CaS}{N:Nat}
theorem vX(h:CaAt own w c n p a)(q:a.Fit N)(F:N<=50000):
  Calls prog 243 #[ptr c] w (zt own w c n p (a.j7 n).1 (.int .i64 (a.j7 n).2)):=by
 by_cases b:a.next+1<=a.cov+n.jo
 .unfold CaS.j7;rw[if_pos b];exact Wk h b
 have s:=qqh (Wf h);obtain⟨-,-,-,D,-,-,-,-,-⟩:=h.cells;have G:decide ((n.jo:Int)-((a.next:Int)-1-(a.cov:Int))>=2)=false:=by simp;omega
 have q1:¬(2:Int)<=(n.jo:Int)-((a.next:Int)-1-(a.cov:Int)):=oM;have v:=qqh q;unfold CaS.j7;rw[if_neg b];clear h b q;go_enter func243,ntmps243
 go_wp2_with fail
 refine s.o.mono ?_;rintro e w1 ⟨rfl,H,h1,A⟩;have E:=qqh (zt.from A (YM h1 v.o.sm (by have:=v.o.dO;omega)));clear h1 A s D;generalize (n.jo:Int)-((a.next:Int)-1-(a.cov:Int))=r at*;go_wp2_with fail
 refine E.o.mono ?_;rintro e J ⟨rfl,j⟩;replace j:=qqh j;go_wp2
 go_ret
 exact⟨rfl,j.o⟩
end
theorem sL{next b s h:Nat}(d:Bool)(h1:1<=next)(h2:next<=1099511627776)(_hjo:1<=b)(j:0<=k/\k<4096)(q:s<1024)(v:h<=4294967295):mayR (jaddX next b 0 k s d h)=true:=by
 have A:(next-1)/b<=next-1:=Nat.div_le_self _ _;unfold jaddX;generalize (next-1)/b=D at*;cases d
 all_goals simp[mayR,withinB,bndR,recX,inB,bitN]<;>omega
theorem ZT{next b:Nat}(h1:1<=next)(h2:next<=1099511627776)(_hjo:1<=b)(h:0<=k/\k<4096):mayR (jaddX next b 1 k 0 false 0)=true:=by
 have j:(next-1)/b<=next-1:=Nat.div_le_self _ _;unfold jaddX;generalize (next-1)/b=q at*;simp[mayR,withinB,bndR,recX,inB,bitN]<;>omega
open Go Go.RowKit Go.Shelf Tryz
attribute [local go_sem] qYb
def CaS.spareB(a:CaS):Bool:=a.K.any (cleanB a.ps)
theorem TA(K:List Int)(A:Int->Bool):(kaL K A).map (·.1)=K:=by
 simp[kaL,Function.comp_def]
def SpX(ps:List (Int×Bool))(wz:World)(rb:Nat)(cc:Code)(pre:List It7)(W:World):Prop:=
 cc=.ret/\(∃x∈pre,cleanB ps x.1=true)/\Boxed W rb 4 (.bool true)/\Upd (fun j=>j=rb\/wz.heap.size<=j) wz W
theorem JV{own:Nat->Nat}{c:Nat}{p:CaP}{a:CaS}(h:CaAt own w c n p a):
  Calls prog 423 #[ptr c] w fun e w'=>e=.returned (.bool a.spareB)/\Below w.heap.size w w':=by
 obtain⟨w1,T⟩:=qqe ((w.alloc (.cells #[ptr c] 98)).alloc (.cells #[.bool false] 4));have ah:Upd (fun _=>False) w w1:=by rw[T];exact((uur _ w).alloc _).alloc _
 have a6:w1.heap[w.heap.size]?=some (.cells #[ptr c] 98 (0,0)):=by rw[T];exact(qxk _ _ _ oe).trans (zc w _ rfl)
 have s:w1.heap[w.heap.size+1]?=some (.cells #[.bool false] 4 (0,0)):=by rw[T];exact zc _ _ oe
 have aO:w1.heap.size=w.heap.size+2:=by rw[T];simp
 have h1:=h.new ah;have aP:=h.clt;obtain⟨-,-,-,-,-,-,-,aC,-⟩:=h.cells;have ar:=qqh (VP h1.ck);have ab:=Y4 h1 ah a6 s;clear h h1 ah a6 s;refine(callsIn_wide (n:=4)).1 ?_;refine callsIn_of_wp_marks func423 rfl trivial ?_ rfl;simp only[ntmps423,qXi,qza,qzd,Nat.reduceAdd,Nat.reduceSub,qxi,qxj,qXc,qxy,qzv,qxz];refine wpIn_wide.2 ?_;go_wp2_with fail
 rw[<-T];clear T aC;refine ar.o.mono ?_;rintro e J ⟨aD,aE,rfl,L,au⟩;have aQ:=au.size;have ai:Hid (Upd (fun _=>False) w1 J):=uuo au;have av:=qqh L;clear ar L;go_wp2_with fail
 refine(wpIn_wide (n:=4)).1 ?_
 refine' wpIn_rangeFunc_ownH rfl oM (gf:=aD) (lb:=aE) rfl trivial av.o.1
  (av.o.2 3 oM (fun j=>J.heap.size<=j) (fun j h=>h) _ (qxl _ _)) uy (fun b l o aF aw=>wL (M:=J.heap.size) (fun j h=>h) b l o aF aw) (qxl _ _) (fun _=>rfl)
  (fun U b=>Below J.heap.size J b/\∀x∈U,cleanB a.ps x.1=false)
  (SpX a.ps J (w.heap.size+1))
  (fun U aj ak am F L a7=>⟨ownFrom_below (β:=Unit) (qXp _) (qXp _) () aj ak am F.1 L a7,F.2⟩)
  (fun aG U aj ak am F L a7=>⟨F.1,F.2.1,(grownBy_keeps_cells L (fun r e=>(a7 r e).2) F.2.2.1 rfl).trans F.2.2.1,yJ F.2.2.2 L (fun r e=> .inr (a7 r e).1)⟩)
  ⟨qxl _ _,fun x hx=>by cases hx⟩
  (fun x an _=>an=(_:It7->Act) x)
  (fun x an=>fun aR aj ak am F L a7=>F)
  ?assign ?body ?done ?stop
 case assign=>
  rintro ax U x b K ⟨v,G⟩ D
  gi_wp2
  refine D _ _ (KeepsFrom.refl _ _) (uur _ _) ⟨v,G⟩ ?_;exact rfl
 case body=>
  rintro ax U x an b aw _ ⟨v,G⟩ rfl hlt;have q:Upd (fun _=>False) w1 b:=ai.o.trans (uuo v);obtain⟨h1,-,a6,s⟩:=ab.o;have ay:=sD (h1.new q) x.1;have az:=q.j4 a6;have V:=q.j4 s;have aH:=za az 0;have aA:=qqh ay;have aI:=Y3 v G V;clear h1 a6 s ay az V v G q
  gi_wp2_with fail
  refine⟨trivial,?_⟩;refine(CallsIn.inRound ax (callsIn_wide.2 aA.o)).mono ?_;rintro e ad ⟨rfl,H⟩;obtain⟨v,G,V⟩:=aI.o;have E:=(H.block _ (zd V)).trans V;have c2:=za E 0;have aS:=zf E 0;have W:Below J.heap.size J ad:=v.trans (H.mono v.size);have X:KeepsOthers b ad:=⟨H.size,fun k o ae aT=>(H.block k (zd ae)).trans ae⟩
  have aJ:=qqh G;have aB:=Y4 W X E H;clear v G V E W X H aA aH;rcases Q:cleanB a.ps x.1 with _|_
  .have ao:=qqh Q;clear Q
   gi_wp2
   obtain⟨W,X,E,H⟩:=aB.o;refine⟨X.from _,uuo H,W,fun y hy=>?_⟩;rcases qzm.1 hy with hy|hy
   .exact aJ.o y hy
   .simp at hy;subst hy;exact ao.o
  .have ao:=qqh Q;clear Q
   gi_wp2
   obtain⟨W,X,E,H⟩:=aB.o;have a8:=zi ad (w.heap.size+1) 0 (.bool true);refine⟨(X.trans (zD a8 (fun j aK _=>⟨_,_,_,aK▸E⟩))).from _,rfl,⟨x,oe,ao.o⟩,Boxed.set (.bool true) (show Boxed ad (w.heap.size+1) 4 (.bool false)from E),?_⟩;exact(uuo W).trans (a8.mono (fun _ _ h=> .inl h))
 case done=>
  rintro aa aU b af rfl ⟨v,G⟩ D;have q:Upd (fun _=>False) w1 b:=ai.o.trans (uuo v);have s:=q.j4 ab.o.2.2.2;have c1:=za s 0;have aV:=zf s 0;have S:a.spareB=false:=by
   unfold CaS.spareB;rw[List.any_eq_false];intro k ae;have aL:k∈(kaL a.K a.A).map (·.1):=by rw[TA];exact ae
   obtain⟨x,hx,rfl⟩:=qzr.1 aL;rw[G x hx];decide
  have ap:=Y5 S D q s af;clear S D q s G v af;go_wp2
  obtain⟨S,D,q,s,af⟩:=ap.o;have a8:=zi b (w.heap.size+1) 0 (.bool false);have aM:=zd D;have aN:(b.setCell ⟨w.heap.size+1,0,none⟩ (.bool false)).heap[aa]?=some (.deferred (some [])):=(a8.block aa aM oM).trans D;have E:=zh s 0 (.bool false);have O:=xk (b.setCell ⟨w.heap.size+1,0,none⟩ (.bool false)) aa (.deferred none);have Y:=za ((O.block _ (zd E) oM).trans E) 0;refine⟨oe,.inl ⟨_,_,rfl,run_takeDeferred aN,?_⟩⟩;refine⟨.bool false,by simp[results,results423,go_sem,Y],by rw[S],?_⟩;have Z:=(q.mono (S':=fun j=>w.heap.size<=j) (fun _ _ h=>h.elim)).trans ((a8.mono (fun j _ e=>oM)).trans (O.mono (fun j _ e=>oM)));exact zj (qxl _ _) ((ab.o.2.1.mono (S':=fun j=>w.heap.size<=j) (fun _ _ h=>h.elim)).trans Z) (qXp _) (fun k h=>h)
 case stop=>
  rintro aa aG U b af S ⟨rfl,⟨x,hx,Q⟩,aq,q⟩ D;have ag:a.spareB=true:=by
   unfold CaS.spareB;rw[List.any_eq_true];refine⟨x.1,?_,Q⟩;rw[<-TA a.K a.A];exact qzr.2 ⟨x,S.subset hx,rfl⟩
  have Z:Upd (fun j=>w.heap.size<=j) w b:=((ab.o.2.1.trans ai.o).mono fE).trans (q.mono (fun j _ h=>oM));have O:=xk b aa (.deferred none);have Y:=za ((O.block _ (zd aq) oM).trans aq) 0;have ap:=Y5 ag D Z O Y;clear ag D Z O Y aq q S hx Q
  gi_wp2
  obtain⟨ag,D,Z,O,Y⟩:=ap.o;refine⟨oe,.inl ⟨_,_,rfl,run_takeDeferred D,?_⟩⟩;refine⟨.bool true,by simp[results,results423,go_sem,Y],by rw[ag],?_⟩;exact zj (qxl _ _) (Z.trans (O.mono (fun j _ e=>oM))) (qXp _) (fun k h=>h)
def CaS.ev(n:CaN)(a:CaS):CaS:={a with K:=(EvG.evR (cleanB a.ps) n.sl a.K a.A a.H).2.2.1,A:=(EvG.evR (cleanB a.ps) n.sl a.K a.A a.H).2.2.2.1,H:=(EvG.evR (cleanB a.ps) n.sl a.K a.A a.H).2.2.2.2}
def CaS.evK(n:CaN)(a:CaS):Int:=(EvG.evR (cleanB a.ps) n.sl a.K a.A a.H).1
def CaS.evC(n:CaN)(a:CaS):Int:=(EvG.evR (cleanB a.ps) n.sl a.K a.A a.H).2.1
theorem Ri{q:Int->Bool}{K:List Int}(A:K≠[]):∀(g b:Nat) (j h:Int->Bool) (p:Nat),EvG.evGo q K g b j=some (p,h)->p<K.length/\q (K.getD p 0)=true/\h (K.getD p 0)=false/\∀x,h x=true->j x=true:=by
 have D:0<K.length:=List.length_pos_iff.2 A;intro g
 induction g with
 |zero=>intro b j h p e;cases e
 |succ g s=>
  intro b j h p e;simp only[EvG.evGo]at e;split at e
  .exact s _ _ _ _ e
  .next E=>
   split at e
   .next v=>
    obtain⟨h1,h2,F,G⟩:=s _ _ _ _ e;refine⟨h1,h2,F,fun x hx=>?_⟩;have:=G x hx;unfold updB at this;split at this
    .cases this
    .exact this
   .next v=>
    simp only[Option.some.injEq,qYe]at e;obtain⟨rfl,rfl⟩:=e;exact⟨qXu _ D,by simpa using E,by simpa using v,fun _ b=>b⟩
theorem evR_cases(b:Int->Bool)(j:Nat)(K:List Int)(h:Int->Bool)(G:List Int):
  ((EvG.evR b j K h G).2.1=14/\EvG.evR b j K h G=(0,14,K,h,G))\/
   ((EvG.evR b j K h G).2.1=0/\∃i q,∃E:i<K.length,EvG.evR b j K h G=(K[i],0,EvG.restK K i,q,EvG.trimG j (G++[K[i]]))/\b K[i]=true/\q K[i]=false):=by
 unfold EvG.evR;cases s:EvG.evGo b K (2*K.length) 0 h with
 |none=>exact .inl ⟨rfl,rfl⟩
 |some D=>
  obtain⟨p,q⟩:=D;by_cases v:K=[]
  .subst v;cases s
  .obtain ⟨h1,h2,A,-⟩:=Ri v _ _ _ _ _ s;have e:K.getD p 0=K[p]:=by simp[h1]
   rw[e]at h2 A;refine .inr ⟨rfl,p,q,h1,?_,h2,A⟩;simp only[e]
theorem qg{ps:List (Int×Bool)}(h:cleanB ps k=true):getC ps k=0:=by
 unfold cleanB at h;simp only[qxo,beq_iff_eq]at h;exact h.1
def CaS.kv(n:CaN):Nat->Nat->CaS->CaS×Nat×Int
 |0,g,a=>(a,g,0)
 |m+1,g,a=>
  if a.spareB=false then(a,g,0)
  else if(a.j7 n).2≠0 then((a.j7 n).1,g,(a.j7 n).2)
  else if(a.j7 n).1.evC n≠0 then((a.j7 n).1.ev n,g,0)
  else if turnCode (a.j7 n).1.st (getV (a.j7 n).1.ps ((a.j7 n).1.evK n)).1 3≠0 then(((a.j7 n).1.ev n).left n ((a.j7 n).1.evK n),g,turnCode (a.j7 n).1.st (getV (a.j7 n).1.ps ((a.j7 n).1.evK n)).1 3)
  else CaS.kv n m (g+1) (((a.j7 n).1.ev n).left n ((a.j7 n).1.evK n))
theorem CaS.Fit.ev{a:CaS}(h:a.Fit N):(a.ev n).Fit N:={h with}
theorem CaS.Fit.left{a:CaS}(h:a.Fit N)(h1:1<=a.next)(k:Int):(a.left n k).Fit (N+1):=
 {h.mono (qXq N)with
  nx:=by have:=h.nx;show a.next+1<=N+1;omega
  w1:=fun q b=>by
   rcases qzm.1 b with b|b
   .exact h.w1 q b
   .simp at b;subst b;exact h1
  sm:=fun x s j=>by
   simp only[yP]at j;split at j
   .cases j
   .exact h.sm x s j}
theorem CaS.ckpt_next(n:CaN)(a:CaS):(a.ckpt n).1.next=a.next/\(a.ckpt n).1.ps=a.ps:=by
 unfold CaS.ckpt
 repeat' split
 all_goals exact⟨rfl,rfl⟩
theorem CaS.ckpt_room{a:CaS}(b:(a.ckpt n).2=0)(h1:1<=a.next)(s:4<=n.jo):(a.ckpt n).1.next+1<=(a.ckpt n).1.cov+n.jo:=by
 unfold CaS.ckpt at*;split at b
 .next h=>exact absurd b h
 split at b
 .next h=>exact absurd b h
 split at b
 .next h=>exact absurd b h
 .next h2 j q=>
  rw[if_neg h2,if_neg j,if_neg q];show a.next+1<=(a.next-1)+n.jo;omega
theorem CaS.j8(n:CaN)(a:CaS):(a.j7 n).1.next=a.next/\(a.j7 n).1.ps=a.ps:=by
 unfold CaS.j7;split
 .exact ⟨rfl,rfl⟩
 .exact a.ckpt_next n
theorem CaS.kD{a:CaS}(h:(a.j7 n).2=0)(h1:1<=a.next)(j:4<=n.jo):(a.j7 n).1.next+1<=(a.j7 n).1.cov+n.jo:=by
 unfold CaS.j7 at*;split at h
 .next b=>rw[if_pos b];exact b
 .next b=>rw[if_neg b];exact CaS.ckpt_room h h1 j
section
variable{own:Nat->Nat}{w w':World}{c:Nat}{n:CaN}{p:CaP}{a:CaS}{N:Nat}
theorem CaAt.nx1(h:CaAt own w c n p a):1<=a.next:=by have:=h.jr.good.wl;omega
theorem zdn(h:CaAt own w c n p a):Calls prog 424 #[ptr p.ck,EvG.mayV (ptr c)] w (zt own w c n p (a.ev n) (.tuple #[.int .i64 (a.evK n),.int .i64 (a.evC n)])):=
 (QY h).mono fun e w' ⟨A,D,E,F,G,j,q,own',s,v⟩=>by
  have b:=q.2;refine⟨?_,own',?_,v⟩
  .rw [j,CaS.evK,CaS.evC,b]
  .rw [CaS.ev,b];exact s
theorem JW(h:CaAt own w c n p a)(aq:a.Fit N)(m:Nat)(aT:m<=1000)(ar:N+m*(n.pa+1)<=50000):
  Calls prog 386 #[ptr c,.int .i64 (m:Int)] w (zt own w c n p (CaS.kv n m 0 a).1 (.tuple #[.int .i64 ((CaS.kv n m 0 a).2.1:Int),.int .i64 (CaS.kv n m 0 a).2.2])):=by
 obtain⟨R,ag⟩:=qqe (CaS.kv n m 0 a);rw[<-ag];have U:=Y4 h aq ar ag;have aU:=qqf;clear h aq ar ag;go_enter func386,ntmps386
 go_wp2
 refine wp_scope_straight ?_;go_wp2
 refine wp_label ?_;go_wp2
 go_loopg[6] m (fun g i wr=>∃k:Nat,k+g=m/\i=.int .i64 k/\∃own' ah,CaAt own' wr c n p ah/\Did own own' w wr/\ah.Fit (N+k*(n.pa+1))/\CaS.kv n g k ah=R)
 case atStart=>exact⟨0,oM,rfl,own,a,U.o.1,Did.refl U.o.1.far,by simpa using U.o.2.1,U.o.2.2.2.symm⟩
 case round=>
  obtain⟨k,aJ,rfl,au,a1,h1,av,aw,Q⟩:=hrel;have a7:k<m->(k+1)*(n.pa+1)<=m*(n.pa+1):=fun h=>qXv _ h;rw[Nat.succ_mul]at a7;have D:=Y4 h1 av aw Q;have ai:=qqh (JV h1);have a7:=qqh a7;clear h1 av aw Q;by_cases hlt:k<m
  .have ax:Hid (N+(k+1)*(n.pa+1)<=50000):=by
    show _<=_;have h1:=a7.out hlt;have h2:=U.o.2.2.1;rw[Nat.succ_mul];omega
   have V:(k+1)*(n.pa+1)=k*(n.pa+1)+(n.pa+1):=Nat.succ_mul _ _;replace V:=qqh V;have S:CaS.kv n (gk-1+1) k a1=R:=by rw[show gk-1+1=gk by omega];exact D.o.2.2.2
   rw[CaS.kv]at S;replace S:=qqh S;go_wp2_with fail
   refine ai.o.mono ?_;rintro e aK ⟨rfl,ay⟩;have aj:=qqb ay;have h2:=D.o.1.new aj;have W:=D.o.2.1.trans (D.o.1.ko aj);have a8:=D.o.2.2.1;have aV:Hid (w.heap.size<=aK.heap.size):=W.upd.size;clear aj ay D ai;cases aa:a1.spareB with
   |false=>
    have j:=S.out;rw[if_pos aa]at j;have s:=Y3 h2 W j;clear h2 W a8 aa j;go_wp2
    rw[qxr];go_ret2
    rw[<-s.o.2.2];exact⟨rfl,au,s.o.1,s.o.2.1⟩
   |true=>
    have j:=S.out;rw[if_neg (by rw[aa];decide)]at j;clear S aa;have ak:=qqh (zt.from W (vX h2 a8 (by have:=ax.out;have:=V.out;omega)));have T:=h2.nx1;have aL:=h2.ok.j1;have G:=a8.j7 (n:=n);have X:=fun h=>CaS.kD (a:=a1) (n:=n) h T aL;have am:=(a1.j8 n).1;generalize a1.j7 n=r at*;obtain⟨b,az⟩:=r;simp only at ak j G X am;have s:=Y4 j G X am;clear h2 W a8 j G X am T;go_wp2_with fail
    refine ak.o.mono ?_;rintro e aW ⟨rfl,aM,H,ab⟩;clear ak;by_cases v:az=0
    rotate_left
    .have aA:(az==0)=false:=by simpa using v
     have j:=s.o.1;rw[if_pos v]at j;have J:=Y3 H ab j;clear H ab j;go_wp2
     rw[qxr];go_ret2
     rw[<-J.o.2.2];exact⟨rfl,aM,J.o.1,J.o.2.1⟩
    subst v;have F:=s.o.1;rw[if_neg oe]at F;obtain⟨-,-,-,-,-,-,-,aN,-⟩:=H.cells;have aB:=qqh (zt.from ab (zdn H));have J:=Y4 F H.nx1 (evR_cases (cleanB b.ps) n.sl b.K b.A b.H) H.ok;clear H ab F;go_wp2_with fail
    refine aB.o.mono ?_;rintro e aX ⟨rfl,aO,L,Y⟩;obtain⟨E,M⟩:=qqe (b.evK n);obtain⟨aC,O⟩:=qqe (b.evC n);rw[<-M,<-O];have Z:=Y4 L Y M O;clear L Y M O aB aN;by_cases v:aC=0
    rotate_left
    .have aA:(aC==0)=false:=by simpa using v
     have q:=J.o.1;rw[<-Z.o.2.2.2,if_pos v]at q;replace q:=qqh q;go_wp2
     rw[qxr];go_ret2
     rw[<-q.out];exact⟨rfl,aO,Z.o.1,Z.o.2.1⟩
    subst v;obtain⟨L,Y,M,O⟩:=Z.o;obtain⟨F,T,ad,aD⟩:=J.o;rw[<-O,if_neg oe,<-M]at F;have a6:getC (b.ev n).ps E=0:=by
     rcases ad with⟨ad,-⟩|⟨-,i,aY,aZ,aP,aQ,-⟩
     .have:b.evC n=14:=ad;rw[<-O]at this;cases this
     .have:E=b.K[i]:=by rw[M,CaS.evK,aP]
      rw[this];exact qg aQ
    have aE:0<=E/\E<4096:=by
     have h1:=L.pl;have h2:=L.ok.b2;unfold getC at a6;split at a6
     .cases a6
     .omega
    have X:=s.o.2.2.1 oe;have G:=s.o.2.1;have an:(b.ev n).next=b.next:=rfl;have aR:b.next<=50000:=qXr G.nx (by have:=ax.out;have:=V.out;omega);have aF:=qqh (zt.from Y (Wi L E a6 (by show b.next<=b.cov+n.jo;omega) (by rw[an];omega) (by rw[an];exact ZT T oM (by have:=aD.j1;omega) aE)));have f5:((b.ev n).left n E).Fit (N+k*(n.pa+1)+n.pa+1):=G.ev.left T E;have b0:=aJ;generalize ae:turnCode (b.ev n).st (getV (b.ev n).ps E).1 3=ao at*;replace ae:turnCode b.st (getV b.ps E).1 3=ao:=ae;rw[ae]at F;have ap:=Y2 F f5;clear L Y M O F T ad aD a6 aE X G an aR f5 ae Z J s;go_wp2_with fail
    refine aF.o.mono ?_;rintro e b1 ⟨rfl,aG,aH,aI⟩;have af:=Y2 aH aI;clear aH aI aF;by_cases v:ao=0
    rotate_left
    .have aA:(ao==0)=false:=by simpa using v
     have q:=ap.o.1;rw[if_pos v]at q;replace q:=qqh q;go_wp2
     rw[qxr];go_ret2
     rw[<-q.out];exact⟨rfl,aG,af.o.1,af.o.2⟩
    subst v;have q:=ap.o.1;rw[if_neg oe]at q;replace q:=qqh q;go_wp2
    go_roundg (gk-1)
    case measure=>omega
    case rel=>
     refine⟨k+1,oM,by go_num,aG,_,af.o.1,af.o.2,?_,q.out⟩;rw[V.out,<-qXm,<-qXm];exact ap.o.2
  .have Q:=D.o.2.2.2;have aS:gk=0:=oM;rw[aS]at Q;have j:(a1,k,(0:Int))=R:=Q;have s:=Y3 D.o.1 D.o.2.1 j;clear Q j D ai;go_wp2
   rw[qxr];go_ret2
   rw[<-s.o.2.2];exact⟨rfl,au,s.o.1,s.o.2.1⟩
end
def CaS.kF(n:CaN)(b:CaS)(s:Int):CaS×Int×Bool×Int:=
 if(b.j7 n).2=0 then((b.j7 n).1,s,true,0)else({(b.j7 n).1 with st:=turnList (b.j7 n).1.st s 3},0,false,(b.j7 n).2)
def CaS.al(b:CaS):CaS:={b with st:=allocList b.st}
def CaS.take3(n:CaN)(b:CaS):CaS×Int×Bool×Int:=
 if(b.j9 n).2≠0 then((b.j9 n).1,0,false,(b.j9 n).2)
 else if allocCode (b.j9 n).1.st≠0 then((b.j9 n).1.al,0,false,0)else(b.j9 n).1.al.kF n (allocVal (b.j9 n).1.st)
def CaS.kH(n:CaN)(b:CaS):CaS×Int×Bool×Int:=if(pos b.st 3).length=0 then(b,0,false,0)else b.take3 n
def CaS.take1(n:CaN)(b:CaS):CaS×Int×Bool×Int:=
 if(pos b.st 3).length=0 then(if(CaS.kv n 1 0 b).2.2≠0 then((CaS.kv n 1 0 b).1,0,false,(CaS.kv n 1 0 b).2.2)else(CaS.kv n 1 0 b).1.kH n)else b.kH n
def CaS.kq(n:CaN)(a:CaS):CaS×Int×Bool×Int:=if allocCode a.st=0 then a.al.kF n (allocVal a.st)else a.al.take1 n
theorem zdo(base k:Nat)(F:List Bk)(O:List (Nat×Bk))(P:List Int)(W:List (Nat×Bk)):(comR base k F O P W).1.O.length<=O.length+W.length/\((comR base k F O P W).2=W\/(comR base k F O P W).2=[]):=by
 have h1:=wE F O P;have h2:=Vz base k (flushR F O P).F W (flushR F O P).O (flushR F O P).P;have b:=wE (comW base k (flushR F O P).F W (flushR F O P).O (flushR F O P).P).F (comW base k (flushR F O P).F W (flushR F O P).O (flushR F O P).P).O (comW base k (flushR F O P).F W (flushR F O P).O (flushR F O P).P).P;unfold comR;split
 .exact ⟨qXr h1 (qXo _ _),.inl rfl⟩
 split
 .exact ⟨by dsimp only;omega,.inl rfl⟩
 split
 .exact ⟨by dsimp only;omega,.inl rfl⟩
 .exact ⟨by dsimp only;omega,.inr rfl⟩
theorem CaS.Fit.cm{a:CaS}(h:a.Fit N)(q:a.W.length<=n.jo):(a.cm n).Fit (N+n.jo):=by
 obtain⟨h1,h2⟩:=zdo (1+2*n.pa) n.jo a.dF a.dO a.dP a.W;exact{h.mono (qXo N n.jo)with
  dO:=by have:=h.dO;show(comR (1+2*n.pa) n.jo a.dF a.dO a.dP a.W).1.O.length<=_;omega
  w1:=fun j b=>by
   replace b:j∈(comR (1+2*n.pa) n.jo a.dF a.dO a.dP a.W).2:=b;rcases h2 with e|e
   .rw [e]at b;exact h.w1 j b
   .rw [e]at b;cases b}
theorem CaS.Fit.j9{a:CaS}(b:a.Fit N)(h:a.W.length<=n.jo):(a.j9 n).1.Fit (N+n.jo):=by
 have h1:=b.fb;have h2:=h1.cm (n:=n) h;unfold CaS.j9;split
 .exact h1.mono (qXo _ _)
 split
 .exact h2
 .exact {h2 with}
theorem CaS.Fit.al{a:CaS}(h:a.Fit N):a.al.Fit N:={h with}
theorem CaS.Fit.turned{a:CaS}(h:a.Fit N)(l:List Int):({a with st:=l}:CaS).Fit N:={h with}
theorem CaS.Fit.kF{a:CaS}(h:a.Fit N)(s:Int):(a.kF n s).1.Fit (N+n.pa):=by
 unfold CaS.kF;split
 .exact h.j7
 .exact h.j7.turned _
section
variable{own:Nat->Nat}{w w':World}{c:Nat}{n:CaN}{p:CaP}{a:CaS}{N:Nat}
theorem CaAt.wl(h:CaAt own w c n p a):a.W.length<=n.jo:=by have h1:=h.jr.good.wl;have h2:=h.jr.good.room;omega
theorem JX(h:CaAt own w c n p a):Calls prog 384 #[ptr p.ss] w (zt own w c n p a.al (.tuple #[.int .i64 (allocVal a.st),.int .i64 (allocCode a.st)])):=Js h
theorem CaS.Fit.kv{n:CaN}:∀(m g:Nat) {a:CaS} {N:Nat},a.Fit N->1<=a.next->(CaS.kv n m g a).1.Fit (N+m*(n.pa+1))
 |0,g,a,N,h,_=>by simpa[CaS.kv]using h
 |m+1,g,a,N,h,h1=>by
  have b:=h.j7 (n:=n);have q:=(a.j8 n).1;have s:(m+1)*(n.pa+1)=m*(n.pa+1)+(n.pa+1):=Nat.succ_mul _ _;have j:(((a.j7 n).1.ev n).left n ((a.j7 n).1.evK n)).Fit (N+n.pa+1):=b.ev.left (by show 1<=(a.j7 n).1.next;omega) _;simp only[CaS.kv];split
  .exact h.mono (qXo _ _)
  split
  .exact b.mono oM
  split
  .exact b.ev.mono oM
  split
  .exact j.mono oM
  .have:=CaS.Fit.kv (n:=n) m (g+1) j (by show 1<=(a.j7 n).1.next+1;omega);exact this.mono oM
theorem CaS.committed_next(n:CaN)(a:CaS):(a.j9 n).1.next=a.next/\(a.j9 n).1.ps=a.ps:=by
 unfold CaS.j9
 repeat' split
 all_goals exact⟨rfl,rfl⟩
theorem Zcg18{P:Prop}(h:P:=by
  unfold CaS.take3 at b;have a8:=G.wl;have H:=A.o.1;have s:=qqh (zt.from W (wU G H.w1 (by have:=H.dO;omega)));have v:=H.j9 (n:=n) a8;generalize CaS.j9 n aj=r at*;obtain⟨X,aa⟩:=r;simp only at b s v;have D:=Y2 v b;clear G W b v H a8 A;go_wp2_with fail
  refine s.o.mono ?_;rintro e aK ⟨rfl,ap,E,J⟩;have b:=D.o.2;clear s;by_cases j:aa=0
  rotate_left
  .have S:(aa==0)=false:=by simpa using j
   rw[if_pos j]at b;have q:=Y3 E J b;clear E J b;go_wp2
   go_ret3
   rw[q.o.2.2];exact⟨rfl,ap,q.o.1,q.o.2.1⟩
  subst j;rw[if_neg oe]at b;have Q:=qqh (zt.from J (JX E));obtain⟨-,-,-,-,-,cS,-,-,-⟩:=E.cells;have q:=qqh b;clear E J b;go_wp2_with fail
  refine Q.o.mono ?_;rintro e aL ⟨rfl,aq,L,M⟩;have b:=q.o;have v:=D.o.1.al;generalize allocVal X.st=ar at*;generalize allocCode X.st=ab at*;generalize X.al=au at*;clear Q cS D q;by_cases j:ab=0
  rotate_left
  .have S:(ab==0)=false:=by simpa using j
   rw[if_pos j]at b;have q:=Y3 L M b;clear L M b;go_wp2
   go_ret3
   rw[q.o.2.2];exact⟨rfl,aq,q.o.1,q.o.2.1⟩
  subst j;rw[if_neg oe]at b;unfold CaS.kF at b;have s:=qqh (zt.from M (vX L v oM));generalize Y:CaS.j7 n au=r at*;obtain⟨az,cdR⟩:=r;simp only at b s;have D:=qqh b;clear L M b v Y;go_wp2_with fail
  refine s.o.mono ?_;rintro e aM ⟨rfl,av,F,O⟩;have b:=D.o;clear s;by_cases j:cdR=0
  .subst j;rw[if_pos rfl]at b;have q:=Y3 F O b;clear F O b;go_wp2
   go_ret3
   rw[q.o.2.2];exact⟨rfl,av,q.o.1,q.o.2.1⟩
  .have S:(cdR==0)=false:=by simpa using j
   rw[if_neg j]at b;have T:=qqh (zt.from O (xj F ar 3));obtain⟨-,-,-,-,-,cS,-,-,-⟩:=F.cells;have q:=qqh b;clear F O b j;go_wp2_with fail
   refine T.o.mono ?_;rintro e aN ⟨rfl,aw,ad,ae⟩;have U:=Y2 ad ae;clear ad ae T cS;go_wp2
   go_ret3
   rw[q.o];exact⟨rfl,aw,U.o.1,U.o.2⟩):P:=h
theorem TB(h:CaAt own w c n p a)(v:a.Fit N)(aQ:N+2*n.pa+n.jo+1<=50000):
  Calls prog 308 #[ptr c] w (zt own w c n p (a.kq n).1 (.tuple #[.int .i64 (a.kq n).2.1,.bool (a.kq n).2.2.1,.int .i64 (a.kq n).2.2.2])):=by
 obtain⟨R,b⟩:=qqe (a.kq n);rw[<-b];unfold CaS.kq at b;have Q:=qqh (JX h);obtain⟨-,-,-,-,-,cS,-,-,-⟩:=h.cells;have A:=Y3 v b h.nx1;clear h v b;go_enter func308,ntmps308
 go_wp2_with fail
 refine Q.o.mono ?_;rintro e w1 ⟨rfl,aR,h1,af⟩;have b:=A.o.2.1;have v:=A.o.1.al;have ax:1<=a.al.next:=A.o.2.2;generalize allocVal a.st=aE at*;generalize allocCode a.st=ay at*;generalize a.al=ag at*;clear Q cS A;by_cases j:ay=0
 .subst j;rw[if_pos rfl]at b;unfold CaS.kF at b;have s:=qqh (zt.from af (vX h1 v oM));generalize Y:CaS.j7 n ag=r at*;obtain⟨az,cdR⟩:=r;simp only at b s;have D:=qqh b;clear h1 af b v Y;go_wp2_with fail
  refine s.o.mono ?_;rintro e aS ⟨rfl,aF,Z,ah⟩;have b:=D.o;clear s;by_cases j:cdR=0
  .subst j;rw[if_pos rfl]at b;have q:=Y3 Z ah b;clear Z ah b;go_wp2
   go_ret3
   rw[q.o.2.2];exact⟨rfl,aF,q.o.1,q.o.2.1⟩
  .have S:(cdR==0)=false:=by simpa using j
   rw[if_neg j]at b;have T:=qqh (zt.from ah (xj Z aE 3));obtain⟨-,-,-,-,-,cS,-,-,-⟩:=Z.cells;have q:=qqh b;clear Z ah b j;go_wp2_with fail
   refine T.o.mono ?_;rintro e aT ⟨rfl,aG,aA,aB⟩;have U:=Y2 aA aB;clear aA aB T cS;go_wp2
   go_ret3
   rw[q.o];exact⟨rfl,aG,U.o.1,U.o.2⟩
 .have aH:(ay==0)=false:=by simpa using j
  rw[if_neg j]at b;unfold CaS.take1 at b;have s:=qqh (zt.from af (sE h1 3));obtain⟨-,-,-,-,-,cS,-,-,-⟩:=h1.cells;have A:=Y3 v b ax;clear h1 af v b j ax;go_wp2_with fail
  refine s.o.mono ?_;rintro e aU ⟨rfl,aV,h2,ai⟩;have b:=A.o.2.1;clear s cS;obtain⟨a6,V⟩:=qqe ((pos ag.st 3).length);rw[<-V]at b⊢;by_cases j:a6=0
  .rw [if_pos j]at b;have q1:((a6:Int)==0)=true:=by simpa using j
   have am:=qqh (zt.from ai (JW h2 A.o.1 1 oM oM));have an:=CaS.Fit.kv (n:=n) 1 0 A.o.1 A.o.2.2;generalize CaS.kv n 1 0 ag=r at*;obtain⟨aj,aW,aC⟩:=r;simp only at b an am;have D:=Y2 an b;clear h2 ai b an V j A;go_wp2_with fail
   refine am.o.mono ?_;rintro e aX ⟨rfl,aI,a7,ak⟩;have b:=D.o.2;clear am;by_cases j:aC=0
   rotate_left
   .have aH:(aC==0)=false:=by simpa using j
    rw[if_pos j]at b;have q:=Y3 a7 ak b;clear a7 ak b;go_wp2
    go_ret3
    rw[q.o.2.2];exact⟨rfl,aI,q.o.1,q.o.2.1⟩
   subst j;rw[if_neg oe]at b;have v:=D.o.1;unfold CaS.kH at b;have s:=qqh (zt.from ak (sE a7 3));obtain⟨-,-,-,-,-,cS,-,-,-⟩:=a7.cells;have A:=Y2 v b;clear a7 ak v b D;go_wp2_with fail
   refine s.o.mono ?_;rintro e aJ ⟨rfl,aD,G,W⟩;have b:=A.o.2;clear s cS;obtain⟨ao,V⟩:∃a6,a6=(pos aj.st 3).length:=⟨_,rfl⟩
   rw[<-V]at b⊢;by_cases j:ao=0
   .rw [if_pos j]at b;have S:((ao:Int)==0)=true:=by simpa using j
    have q:=Y3 G W b;clear G W b V j;go_wp2
    go_ret3
    rw[q.o.2.2];exact⟨rfl,aD,q.o.1,q.o.2.1⟩
   rw[if_neg j]at b;have S:((ao:Int)==0)=false:=by simpa using j
   clear V;exact Zcg18
  .rw [if_neg j]at b;have q1:((a6:Int)==0)=false:=by simpa using j
   unfold CaS.kH at b;have s:=qqh (zt.from ai (sE h2 3));obtain⟨-,-,-,-,-,cS,-,-,-⟩:=h2.cells;rw[<-V]at b s;have A:=Y2 A.o.1 b;clear h2 ai b V;have aO:=qqh j;clear j;go_wp2_with fail
   refine s.o.mono ?_;rintro e aJ ⟨rfl,aD,G,W⟩;have b:=A.o.2;have j:=aO.out;clear s cS;obtain⟨aj,aP⟩:=qqe (ag);rw[if_neg j]at b;subst aP;exact Zcg18
end
def zfn(n:CaN):CaS:=zgK n (caS0 n 1 0 (List.replicate n.size zB) [] [] (List.replicate n.bl zB) [] []) []
end Go.Proofs.YtpejdgiccaijfaaGreatDoor
