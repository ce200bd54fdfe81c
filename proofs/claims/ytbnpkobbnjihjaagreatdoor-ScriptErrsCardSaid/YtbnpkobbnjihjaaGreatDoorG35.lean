/- attach.Attach -/
import Derived.Test.YtbnpkobbnjihjaaGreatDoorG30
import Derived.Test.YtbnpkobbnjihjaaGreatDoorG32
set_option maxRecDepth 100000
set_option maxHeartbeats 4000000
namespace Go.Proofs.YtbnpkobbnjihjaaGreatDoor
open Go Go.RowKit Tryz
variable{li lc lf d c base wh sq ssd back k:Nat}{n:CaN}{F G:List Bk}{O Q:List (Nat×Bk)}{m f:Int}{w:World}{own:Nat->Nat}{S:Nat->Prop}
section
open Go.Shelf Go.Lib
def qo(n:CaN)(wh sq:Nat)(F:List Bk)(O:List (Nat×Bk))(G:List Bk)(Q:List (Nat×Bk))(L:List Ent):CaS:=(caS0 n wh (sq+1) F O [] G Q []).ldTo n (dirE L L.length)
theorem Tx(L:List Ent):dirE L L.length=L.filter (fun x=>x.d):=by unfold dirE;rw[List.take_length]
theorem zbA{L:List Ent}(h:sj n L)(E:n.Ok):
  ((qo n wh sq F O G Q L).dF=F/\(qo n wh sq F O G Q L).dO=O/\(qo n wh sq F O G Q L).dP=[])/\((qo n wh sq F O G Q L).ckpt n).2=0/\(∀k v,(qo n wh sq F O G Q L).sums k=some v->v<=4294967295)/\
   CaS.Ld n (caS0 n wh (sq+1) F O [] G Q []) (dirE L L.length) (qo n wh sq F O G Q L)/\
   ((∀x∈dirE L L.length,x.b<n.bl/\x.s<n.sl/\x.m<=4294967295)/\((dirE L L.length).map (·.s)).Nodup/\((dirE L L.length).map (·.b)).Nodup/\0+(dirE L L.length).length<maxLen):=by
 have H:∀x∈dirE L L.length,x∈L:=fun x hx=>by rw[Tx]at hx;exact(List.mem_filter.1 hx).1
 have j:(dirE L L.length).Sublist L:=by rw[Tx];exact List.filter_sublist
 have h1:∀x∈dirE L L.length,x.b<n.bl/\x.s<n.sl/\x.m<=4294967295:=fun x hx=>h.1 x (H x hx);have h2:((dirE L L.length).map (·.s)).Nodup:=h.2.1.sublist (j.map _);have s:((dirE L L.length).map (·.b)).Nodup:=List.Nodup.sublist (j.map _) (qXa.2 (h.2.2.imp (fun h=>qXx h)));have J:=xz n.sl _ h2 (fun R K=>by obtain⟨x,hx,rfl⟩:=qzq.1 K;exact(h1 x hx).2.1);rw[qzb]at J;have A:=CaS.ldTo_ok (n:=n) (dirE L L.length) (a:=caS0 n wh (sq+1) F O [] G Q []) (vO n.bl n.sl) (fun x hx=>⟨(h1 x hx).1,(h1 x hx).2.1⟩) h2 s (fun x _=>⟨vu _ _,wk _ _⟩);obtain⟨-,M,N,D,-,-,P,-⟩:=A.oth;exact⟨⟨M,N,D⟩,CaS.NoP.ckpt ⟨D,P⟩,CaS.ldTo_sums _ (fun x hx=>(h1 x hx).2.2) (fun k v h=>by cases h),A,h1,h2,s,by have:=E.s2;unfold maxLen;omega⟩
structure Tel(n:CaN)(F:List Bk)(O:List (Nat×Bk))(Q:List Ent->Nat->Nat->Prop):Prop where
 ok:n.Ok
 fl:F.length=n.size
 su:okS (curB F O 0)=true
 ns:dsS (natsI (numsS (curB F O 0)))=n.C
 zs:∀j,j<n.lo+n.lo+n.lo->curB F O (1+2*n.pa+n.jo+j)=zB
 o5:O.length<=50000
 en:∀{S:Nat->Prop} {w w':World} {b:Nat} {e:Ending},Ey S w b F O n.jo n.pa e w'->∃(v:Value) (L:List Ent) (wh sq:Nat),Q L wh sq/\e=.returned (.tuple #[.int .i64 (wh:Int),.int .i64 (sq:Int),v,.int .i64 0])/\Sl w' 132 4 v L.length (L.flatMap entC)/\From w.heap.size v/\
  Dv (fun j=>S j/\∀g,v.ownBlock=some g->g≠j) w' b F O []/\Upd S w w'
 qq:∀{L:List Ent} {wh sq:Nat},Q L wh sq->sj n L/\wh<=1/\sq+1<1099511627776
theorem sk{bG:List Ent->Nat->Nat->Prop}(R:Dvs own w ssd back F O G Q [])(E:Tel n F O bG)(aP:G.length=n.bl):
  Calls prog 34 #[ptr ssd,ptr back] w (fun e w'=>∃s wh sq,bG s wh sq/\ti own w ssd back n ((qo n wh sq F O G Q s).ckpt n).1 e w'):=by
 obtain⟨ax,af⟩:=qqe (n.C);obtain⟨w1,aQ⟩:=qqe (((w.alloc (.cells #[ptr ssd] 31)).alloc (.cells #[ptr back] 31)).alloc (.cells #[.pointer none,.pointer none,.pointer none] 93));have ay:Upd (fun _=>False) w w1:=by rw[aQ];exact(((uur _ w).alloc _).alloc _).alloc _
 have b3:w1.heap.size=w.heap.size+3:=by rw[aQ];simp
 obtain⟨b4,b5,bo,-,-⟩:=yU w (.cells #[ptr ssd] 31) (.cells #[ptr back] 31) (.cells #[.pointer none,.pointer none,.pointer none] 93);rw[<-aQ]at b4 b5 bo;have ag:=R.new ay;have bp:=zdL ag.kC (fun j az=> .inr az) ag.back (fun j b6 h2=>by rcases h2 with h2|h2;rw[b6]at h2;exact absurd h2 de;rw[ag.far j h2]at b6;exact absurd b6 de) ag.nib ag.on2 (by rw[E.fl];have:=E.ok.s1;unfold CaN.size;omega) n E.ok (fun _=>E.ns);have bH:supR n F G (curB F O 0)=(n.C,0):=by unfold supR;rw[if_pos E.su,if_pos ⟨E.fl,aP⟩]
 rw[bH]at bp;have bq:Hid (Calls prog 61 #[ptr ssd,ptr back] w1 (fun e w'=>e=.returned (.tuple #[.agg n.C.toArray,.int .i64 0])/\Dv (fun j=>own j=2\/w1.heap.size<=j) w' ssd F O []/\Upd (fun j=>own j=2\/w1.heap.size<=j) w1 w')):=bp;have aA:=Y4 R E aP af;have ah:=Y7 aQ ay b3 b4 b5 bo ag;have ca:=za b4 0;have ce:=za b5 0;have cf:ax.length=7:=by rw[af];rfl
 have ch:∀v∈ax,v.oneCell'=true:=by rw[af];exact n.C_one
 have bI:(prog.info? 38).map (·.size)=some ax.length:=by rw[af];exact xt
 rw[<-af]at bq;clear R E aP af aQ ay b3 b4 b5 bo ag bp bH;go_enter func34,ntmps34
 go_wp2_with fail
 rw[<-ah.o.1];refine bq.o.mono ?_;rintro e aR ⟨rfl,bJ,b7⟩;have aS:=ah.o.2.2.2.2.2.2.kz b7 bJ;have did2:=ah.o.2.2.2.2.2.2.did2 b7;have ci:Hid (w1.heap.size<=aR.heap.size):=b7.size;obtain⟨br,bK⟩:=qqe (grow own 2 w1.heap.size aR.heap.size);rw[<-bK]at aS did2;obtain⟨an,aT⟩:=qqe (aR.alloc (.cells ax.toArray 38));have bs:=qqu aT;have ai:=aS.new bs;have did3:=did2.trans (aS.j3 bs);have b8:∀i,w.heap.size<=i->own i=0:=aA.o.1.far;have aB:=did3.zero ah.o.2.2.2.1 (b8 _ (qXp _));have aU:=did3.zero ah.o.2.2.2.2.1 (b8 _ oM);have aC:=did3.zero ah.o.2.2.2.2.2.1 (b8 _ oM);have ap:=qqg aT;have aV:br aR.heap.size=0:=aS.far _ (qXp _);have bt:=zf ap;have bL:=za aB.1 0;have bM:Hid (Calls prog 62 #[.agg ax.toArray,ptr ssd] an (Ey (fun j=>br j=2\/an.heap.size<=j) an ssd F O n.jo n.pa)):=by
  show Calls _ _ _ _ _;rw[aA.o.2.2.2];obtain⟨b9,aW,cj,co,cp,cq,cr,K,a1,a2,ct,cu,z⟩:=aA.o.2.1.ok;exact Ez ai.kC (fun j az=> .inr az) ai.nib ai.on2 n.id n.bl n.sl n.jo n.pa n.lo n.ba b9 aW cj co cp cq cr K a1 a2 ct cu z aA.o.2.1.fl
 have aD:=Y8 aT ai did3 aB aU aC ap aV;rw[aT]at bt bL;clear bJ b7 aS did2 bK bs ai did3 aB aU aC ap aV aT b8 bq ca ce;go_wp2_with (first
  |(refine zk rfl _ _ _ rfl _ _ ax rfl rfl (by rw[cf];rfl) bI ch ?_)
  |(refine qZa rfl _ _ rfl _ _ rfl _ _ bt underlying38 rfl bI ?_)
  |fail)
 rw[<-aD.o.1];refine bM.out.mono ?_;intro e L bb;obtain⟨v,s,wh,sq,bc,rfl,hsl,bd,bN,bO⟩:=aA.o.2.1.en bb;obtain⟨V,Y,aE,aj⟩:=aD.o.2.1.handed bd (fun g cv=>hsl.lt cv) bO bN;have did4:=aD.o.2.2.1.trans aE;obtain⟨Z,a6,bu⟩:=hsl.rd.jW;subst bu;have bv:=Y3 Y did4 aE;have be:=Y4 bc hsl bd aj;obtain⟨aF,aG⟩:=qqe (((L.alloc (.cells #[.int .i64 (wh:Int)] 3)).alloc (.cells #[.int .i64 (sq:Int)] 3)).alloc (.cells #[.slice Z s.length a6] 123));have X:Upd (fun _=>False) L aF:=by rw[aG];exact(((uur _ L).alloc _).alloc _).alloc _
 have bP:=zhq (hsl.keep X (fun _ _ h=>h));have cx:=qqh bP;have aX:=Y2 aG X;clear bb bN bO Y did4 aE bt bL bc hsl bd aj aG X bP;have d9:=qqf;go_wp2_with fail
 rw[<-aX.o.1];refine cx.out.mono ?_;rintro e a7 ⟨da,rfl,aH,aI,H⟩;obtain⟨a8,aa,bu⟩:=aH.rd.jW;subst bu;obtain⟨J,ak⟩:=qqe ((dirE s s.length).length);rw[<-ak]at aH⊢;have cy:a7.cell? ⟨L.heap.size+1+1,0,none⟩=some (.slice Z s.length a6):=by
  have g:aF.heap[L.heap.size+1+1]?=some (.cells #[.slice Z s.length a6] 123 (0,0)):=by rw[aX.o.1];exact zc _ _ oe
  rw[za ((H.block _ (zd g) (fun e=>by have:=be.o.2.1.lt (g:=L.heap.size+1+1) (by simpa[Value.ownBlock]using e);omega)).trans g)];rfl
 have cz:a7.frozen? ⟨L.heap.size+1+1,0,none⟩=false:=by
  have g:aF.heap[L.heap.size+1+1]?=some (.cells #[.slice Z s.length a6] 123 (0,0)):=by rw[aX.o.1];exact zc _ _ oe
  exact zg ((H.block _ (zd g) (fun e=>by have:=be.o.2.1.lt (g:=L.heap.size+1+1) (by simpa[Value.ownBlock]using e);omega)).trans g) 0
 have bQ:=Y4 aH aI H ak;clear aH aI H ak;go_wp2_with fail
 have bR:L.heap.size+3<=a7.heap.size:=by
  have h1:=bQ.o.2.2.1.size;have h2:aF.heap.size=L.heap.size+3:=by rw[aX.o.1];simp
  omega
 obtain⟨m,bx⟩:∃m,m+1+1+1=a7.heap.size:=⟨a7.heap.size-3,oM⟩
 obtain⟨A,aY⟩:=qqe (L.heap.size);obtain⟨q,bf⟩:=qqe (w.heap.size);obtain⟨aq,aZ⟩:=qqe (aR.heap.size);rw[<-bx,<-aY,<-bf,<-aZ];obtain⟨b0,b1⟩:=qqe (a7.setCell ⟨A+1+1,0,none⟩ (.slice a8 J aa));rw[<-b1];obtain⟨N,bg⟩:=qqe ((((b0.alloc (.cells #[.pointer none] 88)).alloc (.cells #[.pointer none,.pointer none,.pointer none] 93)).alloc (.cells #[.slice none 0 0] 94)).alloc (.cells (Wu aq q A m) 83))
 change Calls _ _ _ ((((b0.alloc (.cells #[.pointer none] 88)).alloc (.cells #[.pointer none,.pointer none,.pointer none] 93)).alloc (.cells #[.slice none 0 0] 94)).alloc (.cells (Wu aq q A m) 83)) _
 rw[<-bg];have bS:Hid (Calls prog 32 #[.slice (some ⟨m+1+1+1+1+1+1,0,none⟩) 4 4] N (rE (fun _ _=>False) (fun W=>∃own' c p li lc lf,CaAt own' W c n p ((qo n wh sq F O G Q s).ckpt n).1/\(p.ssd=ssd/\p.back=back)/\Did own own' w W/\(W.heap[q+1+1]?=some (.cells #[.pointer none,.pointer none,.pointer none] 93 (0,0))/\own' (q+1+1)=0)/\Bx own' W m (ptr c) [ptr li,ptr lc,ptr lf]/\Lg3 own' W n ssd li lc lf))):=by
  show Calls _ _ _ _ _;obtain⟨cA,E,aP,af⟩:=aA.o;obtain⟨-,ay,b3,-,-,-,ag⟩:=ah.o;obtain⟨-,ai,did3,aB,aU,aC,ap,aV⟩:=aD.o;obtain⟨Y,did4,aE⟩:=bv.o;obtain⟨aG,X⟩:=aX.o;obtain⟨aH,aI,H,ak⟩:=bQ.o;obtain⟨bc,hsl,bd,aj⟩:=be.o;rw[<-bf]at aB aU aC b3;rw[<-aZ,af]at ap;rw[<-aZ]at aV;have db:=Y.nib.lt;have dc:=Y.tur.lt;have dd:=ai.nib.lt;have df:=ai.tur.lt;have cB:=aE.upd.size;have dg:=zd ap;have lc:=zd aC.1;have dh:w1.heap.size<=aq:=by rw[aZ];exact ci.out
  have cC:∀j,(Value.slice Z s.length a6).ownBlock=some j->V j=0/\j≠1/\j≠0:=fun j az=>by
   have h:=aj j az;exact⟨h.2,oM,oM⟩
  have cD:=(Y.new X).kf H cC;have cE:V (A+1+1)=0:=Y.far _ oM;have am:Upd (fun j=>j=A+1+1) a7 b0:=by rw[b1];exact zi _ _ _ _
  have bT:=cD.kf am (fun j e=>by subst e;exact⟨cE,oM,oM⟩);obtain⟨bU,bV,bW,bX,-,ar⟩:=xS b0 (.cells #[.pointer none] 88) (.cells #[.pointer none,.pointer none,.pointer none] 93) (.cells #[.slice none 0 0] 94) (.cells (Wu aq q A m) 83);have cF:b0.heap.size=m+1+1+1:=by rw[bx,b1];simp
  rw[<-bg,cF]at bU bV bW bX;rw[<-bg]at ar;have cG:=bT.new ar;have bh:∀{D:Nat} {o:Obj},an.heap[D]?=some o/\br D=0->N.heap[D]?=some o/\V D=0:=fun{D o} h=>by
   have aJ:=aE.zero h.1 h.2;have bY:=zd h.1;refine⟨?_,aJ.2⟩;rw[ar.block _ (by have:=zd aJ.1;have:=H.size;have:=X.size;have:=am.size;omega) id,am.block _ (by have:=zd aJ.1;have:=H.size;have:=X.size;omega) oM,H.block _ (by have:=zd aJ.1;have:=X.size;omega) (fun e=>by have:=(aj D e).1;omega),X.block _ (zd aJ.1) id];exact aJ.1
  have di:w.heap.size<=an.heap.size:=qXr ay.size did3.upd.size;have bi:Did own V w aF:=((cA.j3 ay).trans did4).trans (Y.j3 X);have cH:Did own V w a7:=⟨bi.upd.new H (fun i cI e=>by have:=(aj i e).1;omega),bi.old,bi.new,fun j az=>bi.far j (by have:=H.size;omega)⟩
  have cJ:Did own V w N:=(cH.mine am oM).trans (bT.j3 ar);have cK:=bh aB;have kb:=bh aU;have cL:=bh aC;have cM:=bh ⟨ap,aV⟩;have of:∀i,A<=i->V i=0:=fun i cI=>Y.far i oM;rw[<-ak]at aI;have dj:an.heap.size<=A:=by rw[aY];exact cB
  have dk:A<=m:=by have:=bR;omega
  obtain⟨bZ,b9,aW,cN,-⟩:=yU L (.cells #[.int .i64 (wh:Int)] 3) (.cells #[.int .i64 (sq:Int)] 3) (.cells #[.slice Z s.length a6] 123);rw[<-aG,<-aY]at bZ b9 aW;rw[<-aG]at cN;have hgm:∀i,(Value.slice Z s.length a6).ownBlock=some i->an.heap.size<=i/\i<A/\V i=0:=fun i e=>⟨(aj i e).1,by rw[aY];exact hsl.lt e,(aj i e).2⟩
  have c0:∀{i:Nat} {o:Obj},aF.heap[i]?=some o->A<=i->i≠A+1+1->N.heap[i]?=some o:=fun{i o} h h1 h2=>by
   have bY:=zd h;rw[ar.block _ (by have:=H.size;have:=am.size;omega) id,am.block _ (by have:=H.size;omega) h2,H.block _ bY (fun e=>by have:=(hgm i e).2.1;omega)];exact h
  have cO:=c0 bZ (qXp _) oM;have cP:=c0 b9 oM oM;have cQ:N.heap[A+1+1]?=some (.cells #[.slice a8 J aa] 123 (0,0)):=by
   have c3:a7.heap[A+1+1]?=some (.cells #[.slice Z s.length a6] 123 (0,0)):=(H.block _ (zd aW) (fun e=>by have:=(hgm _ e).2.1;omega)).trans aW;rw[ar.block _ (by have:=am.size;have:=zd c3;omega) id,b1];exact xk c3
  have bz:Sl N 132 4 (.slice a8 J aa) J ((dirE s s.length).flatMap entC):=
   (aH.keep am (fun i e h=>by rw[aI]at e;have:=(hgm i e).2.1;omega)).keep ar (fun _ _ h=>h)
  obtain⟨aK,hFx⟩:∃aK:Nat->Option Obj,aK=fun D=>if D=m+1+1+1+1+1+1 then some (.cells (Wu aq q A m) 83)else if D=aq then some (.cells n.C.toArray 38)else if D=q then some (.cells #[ptr ssd] 31)else if D=q+1 then some (.cells #[ptr back] 31)
   else if D=q+1+1 then some (.cells #[.pointer none,.pointer none,.pointer none] 93)else if D=A then some (.cells #[.int .i64 (wh:Int)] 3)else if D=A+1 then some (.cells #[.int .i64 (sq:Int)] 3)else if D=A+1+1 then some (.cells #[.slice a8 J aa] 123)
   else if(Value.slice Z s.length a6).ownBlock=some D then N.heap[D]? else none:=⟨_,rfl⟩
  have M:Kps V N aK:=by
   intro D o b;rw[hFx]at b;simp only[]at b;split at b
   .rename_i h;subst h;cases b;exact⟨bX,of _ oM⟩
   split at b
   .rename_i h;subst h;cases b;exact cM
   split at b
   .rename_i h;subst h;cases b;exact cK
   split at b
   .rename_i h;subst h;cases b;exact kb
   split at b
   .rename_i h;subst h;cases b;exact cL
   split at b
   .rename_i h;subst h;cases b;exact⟨cO,of _ oM⟩
   split at b
   .rename_i h;subst h;cases b;exact⟨cP,of _ oM⟩
   split at b
   .rename_i h;subst h;cases b;exact⟨cQ,of _ oM⟩
   split at b
   .rename_i h;exact⟨b,(hgm _ h).2.2⟩
   .cases b
  have c4:∀i,(Value.slice a8 J aa).ownBlock=some i->aK i=N.heap[i]?:=fun i e=>by
   rw[aI]at e;have h:=hgm i e;rw[hFx];simp only[];rw[if_neg oM,if_neg oM,if_neg oM,if_neg oM,if_neg oM,if_neg oM,if_neg oM,if_neg oM,if_pos e]
  obtain⟨cR,cT,cU⟩:=E.qq bc;obtain⟨cV,cW,cX,dl,aL⟩:=zbA (n:=n) (wh:=wh) (sq:=sq) (F:=F) (G:=G) (O:=O) (Q:=Q) cR E.ok;have cY:∀o W,Dvs o W ssd back F O G Q []->Did own o w W->Kps o W aK->Calls prog 66 #[.agg n.C.toArray,ptr ssd,ptr back,.int .i64 (wh:Int),.int .i64 ((sq+1:Nat):Int),.slice a8 J aa] W (Yd o W ssd back n (qo n wh sq F O G Q s)):=fun o W R _ ab=>
   zfq R.ssd R.back R.far R.nib R.tur R.on R.ot E.ok E.fl aP wh (sq+1) cT cU a8 J aa (qo n wh sq F O G Q s) (fun dm cZ c p d0 h=>by
    have c5:=ab.did d0;have c6:Sl cZ 132 4 (.slice a8 J aa) J ((dirE s s.length).flatMap entC):=bz.same (fun i e=>by
     obtain⟨x,hx⟩:∃x,N.heap[i]?=some x:=⟨_,qxe (bz.lt e)⟩
     rw[hx];exact(c5 i x ((c4 i e).trans hx)).1)
    rw[ak]at c6⊢;exact Rh h c6 (fun i e=>by
     obtain⟨x,hx⟩:∃x,N.heap[i]?=some x:=⟨_,qxe (bz.lt (by rw[ak];exact e))⟩
     exact(c5 i x ((c4 i (by rw[ak];exact e)).trans hx)).2) (vO n.bl n.sl) aL.1 aL.2.1 aL.2.2.1 (fun x _=>⟨vu _ _,wk _ _⟩) ⟨aL.2.2.2,aL.2.2.2,aL.2.2.2⟩)
  have d1:=EA (own:=own) (own':=V) (w:=w) (W:=N) (g:=m+1+1+1+1+1+1) (m:=m) (m0:=A) (s8:=aq) (q:=q) (Fx:=aK) (ao:=a8) (ln:=J) (cap:=aa) oM E.fl E.zs cV cW cX E.o5 cY oM cG cJ M ⟨⟨bU,of _ oM⟩,⟨bV,of _ oM⟩,⟨bW,of _ oM⟩⟩
   (by rw[hFx];simp) (by rw[hFx];simp only[];rw[if_neg oM,if_pos trivial]) (by rw[hFx];simp only[];rw[if_neg oM,if_neg oM,if_pos trivial]) (by rw[hFx];simp only[];rw[if_neg oM,if_neg oM,if_neg oM,if_pos trivial])
   (by rw[hFx];simp only[];rw[if_neg oM,if_neg oM,if_neg oM,if_neg oM,if_neg oM,if_pos trivial]) (by rw[hFx];simp only[];rw[if_neg oM,if_neg oM,if_neg oM,if_neg oM,if_neg oM,if_neg oM,if_pos trivial])
   (by rw[hFx];simp only[];rw[if_neg oM,if_neg oM,if_neg oM,if_neg oM,if_neg oM,if_neg oM,if_neg oM,if_pos trivial])
   oj
   oj
   oj
  refine d1.mono fun e W ⟨c,bb,h1,h2⟩=>⟨c,bb,fun d2=>?_,h2⟩;obtain⟨bA,b2,bB,li,K,T,au,av,aM,ab,b,aN⟩:=h1 d2;exact⟨bA,b2,bB,li,K,T,au,av,aM,ab _ _ (by rw[hFx];simp only[];rw[if_neg oM,if_neg oM,if_neg oM,if_neg oM,if_pos trivial]),b,aN⟩
 have HM:Hid (q+1+1<A/\A<=m):=by
  have h1:=ah.o.2.2.1;have h2:=zd (aD.o.2.2.2.2.2.1.1);have b6:=bv.o.2.2.upd.size;exact⟨oM,oM⟩
 clear bg bx aY aZ aD bv bM b1 bR cy cz;refine bS.o.mono ?_;rintro e ad ⟨d3,rfl,h1,h2⟩;by_cases c7:d3=0
 rotate_left
 .exact (h2 c7).elim
 subst c7;obtain⟨bA,b2,bB,li,K,T,au,av,aM,ab,b,aN⟩:=h1 rfl;have bC:=Y6 au av aM ab b aN;have c8:=za b.1.1 0;have c9:=zf b.2.1.1;have cb:=za b.2.2.1 0;have cc:=bf;have d4:Hid (w.heap.size<=q+1+1):=by show _<=_;omega
 clear h1 h2 au av aM ab b aN bS;go_wp2_with fail
 rw[<-cc];clear bf cc;have d5:=zy (n:=3) bC.o.2.2.2.1.1 oe;refine qZd (S:=fun W=>W.cell? ⟨m+1+1+1,0,none⟩=some (ptr b2)/\W.rangeAt (m+1+1+1+1) 0 [ptr li,ptr K,ptr T]/\W.cell? ⟨m+1+1+1+1+1,0,none⟩=some (.slice none 0 0)) kR (⟨by rw[qYi];exact c8,by rw[qYk];exact c9,by rw[qYi];exact cb⟩) (fun bj=>?_);refine Wl.i [0,2] ?_;iterate 2 refine Wl.t bj ?_
 refine Wl.o ?_;refine Wl.l 1 (fun w h=>h.2.1) underlying93 wo bj ?_;refine Wl.r 3 (fun aw M=>?_);go_simp
 refine M.o _ _ (bj) (fun bk=>?_);clear M aw;have aO:Upd (fun _=>False) ad ad.drew:=(uur _ ad).drew;have cd:ad.drew.there (q+1+1) 0 3:=zy (n:=3) (aO.jV bC.o.2.2.2.1.1) oe;have U:=zo ad.drew (q+1+1) 0 [ptr li,ptr K,ptr T];have bn:(ad.drew.setCells (q+1+1) 0 [ptr li,ptr K,ptr T]).cell? ⟨m+1+1+1,0,none⟩=some (ptr b2)/\(ad.drew.setCells (q+1+1) 0 [ptr li,ptr K,ptr T]).rangeAt (m+1+1+1+1) 0 [ptr li,ptr K,ptr T]/\(ad.drew.setCells (q+1+1) 0 [ptr li,ptr K,ptr T]).cell? ⟨m+1+1+1+1+1,0,none⟩=some (.slice none 0 0):=
  ⟨U.jU bk.1 oK,U.range bk.2.1 oK,U.jU bk.2.2 oK⟩
 refine Wl.r 4 (fun aw M=>?_);rw[if_pos oA];refine qZe _ _ _ rfl _ _ [ptr li,ptr K,ptr T].toArray rfl rfl cd wo jf ?_;simp only[Act.put,qXd];refine M.o _ _ (bn) (fun _=>?_);clear M aw bj bk;refine Wl.r 5 (fun aw M=>?_);go_simp
 refine M.o _ _ (bn) (fun _=>?_);clear M aw;refine Wl.r 6 (fun aw M=>?_);go_simp
 refine M.o _ _ (bn) (fun _=>?_);clear M aw;refine Wl.d ?_;have d6:=Y2 aO U;clear bn aO U c8 c9 cb d5;go_wp2
 refine qYq (Uc rfl _ _ (q+1+1) 0 [ptr li,ptr K,ptr T] _ rfl (qYl _ _ _ _ cd) underlying93 rfl wo) rfl ?_;obtain⟨au,av,aM,ab,b,aN⟩:=bC.o;obtain⟨aO,U⟩:=d6.o;have bD:=au.j3 aO;have bE:=au.new aO;have bF:=bD.zero ab.1 ab.2;have ae:=aN.did bD;have d7:=Yt bE.nib bE.tur bF.1 bF.2 (fun k y h=>by simp at h);have J:∀{l:Nat} {v:Array Value} {t:TypeId},ad.drew.heap[l]?=some (.cells v t (0,0))->(∃x,v[0]?=some (.pointer (some x)))->l≠q+1+1:=by
  rintro l v t h ⟨x,hx⟩ e;rw[e,bF.1]at h;cases h;simp at hx
 have d8:w.heap.size<=q+1+1:=d4.out;exact⟨s,wh,sq,be.o.1,b2,bB,bA,li,K,T,rfl,bE.kf U d7,av.1,av.2,(aM.trans bD).mine U d8,ae.1.1.keep U (J ae.1.1.str ⟨_,rfl⟩),ae.1.2.1.keep U (J ae.1.2.1.str ⟨_,rfl⟩),ae.1.2.2.keep U (J ae.1.2.2.str ⟨_,rfl⟩),ae.2.1,ae.2.2.1,ae.2.2.2⟩
end
theorem Emp.tel(h:Emp n F O wh sq):Tel n F O (fun s A D=>s=[]/\A=wh/\D=sq):=by
 refine⟨h.ok,h.fl,h.su,h.ns,h.zs,h.o5,fun J=>?_,fun K=>?_⟩
 .obtain ⟨v,s,A,D,c,rfl,hsl,L,M,N,b⟩:=J;rw[h.nw,h.js]at b;rcases b with⟨-,-,b⟩|⟨-,P,R,-,r,E,b⟩
  .cases b
  .have T:P=[]:=List.Perm.eq_nil R;subst T;have U:r.d=[]:=by rw[E];rfl
   have V:r.g=sq:=by rw[E];rfl
   rw[U]at b;have H:∀j,Lists (apRs (apM (([]:List Ent).map Ent.toI)) (([]:List (List Nat)).map natsI)) j->j=[]:=fun j b=>Rk b;rcases b with⟨-,-,b|⟨j,h1,h2⟩⟩|⟨X,Y,Z,b,-⟩
   .exact absurd qzx b
   .rw [H j h1]at h2;exact absurd qzx h2
   .have a6:=H s b;subst a6;exact⟨v,[],wh,sq,⟨rfl,rfl,rfl⟩,by rw[X,Y,Z,V],hsl,L,M,N⟩
 .obtain ⟨rfl,rfl,rfl⟩:=K;exact⟨⟨fun x hx=>(by cases hx),qzx,List.Pairwise.nil⟩,h.wh1,h.sq1⟩
theorem ql(b:Dvs own w ssd back F O G Q [])(h:Emp n F O wh sq)(j:G.length=n.bl):
  Calls prog 34 #[ptr ssd,ptr back] w (ti own w ssd back n ((caS0 n wh (sq+1) F O [] G Q []).ckpt n).1):=
 (sk b h.tel j).mono fun e w' ⟨D,E,H,⟨h1,h2,s⟩,A⟩=>by
  subst h1;subst h2;subst s;exact A
abbrev polC:List Value:=[.int .i64 1,.int .i64 0,.int .i64 2]
theorem tm:(prog.info? 40).map (·.size)=some 3:=kR
def vo0(c li lc lf:Nat):List Value:=[ptr c,ptr li,ptr lc,ptr lf,.pointer none,.int .i64 1,.int .i64 0,.int .i64 2,.int .i64 0,.slice none 0 0,.bool false]
theorem YG(c li lc lf:Nat)(L:Array Value)(b:L=(vo0 c li lc lf).toArray)(w:World):
  (Instr.build 102 #[(0,ptr c),(1,.agg #[ptr li,ptr lc,ptr lf]),(3,.agg #[.int .i64 1,.int .i64 0,.int .i64 2]),(4,.int .i64 0)]).run prog w=.ok (.agg L) w:=by rw[b];kernel_rfl
theorem tO{b:Array Oper}{rest:List Oper}{op:Oper}{x:Act}{Q:Exit->Act->World->Prop}(h:op.guard=none)(p q r s:Operand)(j:op.op=.build 102 #[(0,p),(1,q),(3,r),(4,s)])
  (c li lc lf:Nat) (A:x.eval p=ptr c) (D:x.eval q=.agg #[ptr li,ptr lc,ptr lf]) (E:x.eval r=.agg #[.int .i64 1,.int .i64 0,.int .i64 2]) (H:x.eval s=.int .i64 0) (L:Array Value) (J:L=(vo0 c li lc lf).toArray)
  (K:wpList prog b Q rest (x.put op.dst (.agg L)) w):wpList prog b Q (op::rest) x w:=by
 refine qZb h fun N M=>?_;unfold Oper.wp;simp only[execOp,j,qzk,qzh,qzj,A,D,E,H,qYg,YG c li lc lf L J w,qYf];exact M _ _ K
theorem Rt{v:Nat}{p:CaP}{a:CaS}(b:CaAt own w c n p a)(j:w.cell? ⟨v,0,none⟩=some (ptr c)):
  Calls prog 38 #[ptr v] w fun e w'=>e=.returned (.int .i64 (n.bl:Int))/\Below w.heap.size w w':=by
 have D:=yO (n.id:Int) (n.bl:Int) (n.sl:Int) (n.jo:Int) (n.pa:Int) (n.lo:Int) (n.ba:Int);have s:=qqh (xH b);clear b;go_enter func38,ntmps38
 go_wp2_with fail
 refine s.o.mono ?_;rintro e E ⟨rfl,h⟩;have A:=qqh h;clear h j;go_wp2
 go_ret
 exact⟨rfl,A.o⟩
structure L3At(own:Nat->Nat)(w:World)(li lc lf:Nat)(n:CaN)(d:Nat):Prop where
 i:LogI w li d (1+2*n.pa+n.jo) n.lo 118
 c:LogC w lc d (1+2*n.pa+n.jo+n.lo) n.lo 122
 f:LogF w lf d (1+2*n.pa+n.jo+n.lo+n.lo) n.lo 126
 o:own li=0/\own lc=0/\own lf=0
theorem L3At.keep{w':World}(b:L3At own w li lc lf n d)(j:Upd S w w')(s:∀h,S h->h<w.heap.size->own h≠0\/h≠li/\h≠lc/\h≠lf):L3At own w' li lc lf n d:=
 ⟨b.i.keep j (fun e=>(s _ e b.i.lt).elim (fun e=>e b.o.1) (fun e=>e.1 rfl)),b.c.keep j (fun e=>(s _ e b.c.lt).elim (fun e=>e b.o.2.1) (fun e=>e.2.1 rfl)),b.f.keep j (fun e=>(s _ e b.f.lt).elim (fun e=>e b.o.2.2) (fun e=>e.2.2 rfl)),b.o⟩
theorem L3At.new{w':World}(b:L3At own w li lc lf n d)(h:Upd (fun _=>False) w w'):L3At own w' li lc lf n d:=b.keep h (fun _ b=>b.elim)
def zch(own:Nat->Nat)(w:World)(ssd back:Nat)(n:CaN)(a:CaS)(e:Ending)(w':World):Prop:=
 ∃v q p own',e=.returned (.tuple #[ptr v,.int .i64 0])/\VolAt own' w' v q n p a 0 false/\p.ssd=ssd/\p.back=back/\(w.heap.size<=v/\w.heap.size<=q.lb/\w.heap.size<=q.mb)/\L3At own' w' q.li q.lc q.lf n ssd/\Did own own' w w'
theorem EM{a:CaS}(aJ:n.Ok)(hsl:2<=n.sl)(aK:∀w1,Upd (fun _=>False) w w1->Calls prog 34 #[ptr ssd,ptr back] w1 (ti own w1 ssd back n a))(ap:∀s,w.heap.size<=s->own s=0):
  Calls prog 19 #[ptr ssd,ptr back,.agg polC.toArray] w (zch own w ssd back n a):=by
 obtain⟨m,aq⟩:=qqe (w.heap.size);obtain⟨w1,aa⟩:=qqe (w.alloc (.cells polC.toArray 40));have ar:=qqu aa;have aL:w1.heap[m]?=some (.cells polC.toArray 40 (0,0)):=by rw[aa,aq];exact zc w _ rfl
 have aM:=qqh (aK w1 ar);have aN:Did own own w w1:=(Did.refl ap).mine (ar.mono fE:Upd (fun s=>s=m) w w1) oM;have A:=Y7 aa aq aL (ap m oM) aN aJ hsl;clear aK aa ar aL aq aN aJ hsl ap;go_enter func19,ntmps19
 go_upto_region 1 with fail
 rw[<-A.o.1,<-A.o.2.1];go_wp2_with fail
 refine aM.o.mono ?_;rintro e ab ⟨c,p,au,li,lc,lf,rfl,ad,D,E,aO,aP,aQ,aR,aS,aT,aU⟩;obtain⟨lb,av⟩:=qqe (ab.heap.size);obtain⟨T,ae⟩:=qqe (ab.alloc (.cells #[ptr li,ptr lc,ptr lf] 93));have af:=qqu ae;have U:T.heap[lb]?=some (.cells [ptr li,ptr lc,ptr lf].toArray 93 (0,0)):=by rw[ae,av];exact zc ab _ rfl
 have H:=ad.new af;have J:=(show L3At au ab li lc lf n ssd from⟨aP,aQ,aR,aS,aT,aU⟩).new af;have N:=aO.trans (ad.j3 af);have V:=N.zero A.o.2.2.1 A.o.2.2.2.1;have aw:=zf V.1;have ax:=zf U;have bG:=tf (n.id:Int) (n.bl:Int) (n.sl:Int) (n.jo:Int) (n.pa:Int) (n.lo:Int) (n.ba:Int);have aV:=qqh (xH (H.new ((uur _ T).drew)));have bp:=Y8 H D E (A.o.2.2.2.2.1.trans N) U (ad.far lb oM) V J;have aW:=Y2 ae av;have aX:=underlying40;have aY:=tm;clear ad D E aO aP aQ aR aS aT aU J ae af U H N V aM av;go_upto_region 4 with fail
 rw[<-aW.o.1,<-aW.o.2];refine qZd (S:=fun W=>W.rangeAt m 0 polC/\W.rangeAt lb 0 [ptr li,ptr lc,ptr lf]) kR (⟨by rw[qYk];exact aw,by rw[qYk];exact ax⟩) (fun ay=>?_);refine Wl.l 0 (fun w h=>h.1) aX aY ay ?_;refine Wl.i [1] (Wl.t ay (Wl.o ?_));refine Wl.r 2 (fun X K=>?_);go_simp
 refine aV.o.mono ?_;rintro e bq ⟨rfl,aZ⟩;have ag:=uuo (S:=fun _=>False) aZ;have az:=qqh (Wr 1 0 2 (n.sl:Int) bq);have b0:chkP 1 0 2 (n.sl:Int)=0:=if_pos ⟨oM,oM,by have:=A.o.2.2.2.2.2.2;omega,oM,oM⟩;rw[b0]at az;have aA:=ag.range (show T.drew.rangeAt m 0 polC by rw[qYk];exact aw) id;have aB:=ag.range (show T.drew.rangeAt lb 0 _ by rw[qYk];exact ax) id;have br:=qqh ((uur (fun _=>False) T).drew.trans ag);clear aZ ag b0;refine K.o _ _ (⟨aA,aB⟩) (fun b3=>?_);clear K X;refine Wl.i [3] (Wl.t b3 (Wl.o ?_));refine Wl.r 4 (fun X K=>?_);go_simp
 refine az.o.mono ?_;rintro e aC ⟨rfl,b4⟩;have b:=uuo (S:=fun _=>False) b4;have aD:=b.range aA id;have aE:=b.range aB id;have bs:=qqh (br.o.trans b);clear b4 b;refine K.o _ _ (⟨aD,aE⟩) (fun b5=>?_);clear K X;refine Wl.r 5 (fun X K=>?_);go_simp
 refine K.o _ _ (b5) (fun bt=>?_);clear K X;refine Wl.d ?_;obtain⟨ah,aF⟩:=qqe (vo0 c li lc lf);have Y:=qqh aF;have bH:ah.length=11:=by rw[aF];rfl
 clear ay b3 b5 bt aA aB aw ax aF aV az;go_upto_region 8 with(first
  |(refine qZa rfl _ _ rfl _ _ rfl _ _ aE underlying93 rfl wo ?_)
  |(refine qZa rfl _ _ rfl _ _ rfl _ _ aD aX rfl aY ?_)
  |(refine tO rfl _ _ _ _ rfl c li lc lf oA oA oA oA ah.toArray (by rw[Y.o]) ?_)
  |fail)
 obtain⟨H,D,E,N,U,ol,V,J⟩:=bp.o;have b:=bs.o;obtain⟨v,ai⟩:=qqe (aC.heap.size);obtain⟨b6,aj⟩:=qqe (aC.alloc (.cells ah.toArray 102));have ak:=qqu aj;have L:b6.heap[v]?=some (.cells ah.toArray 102 (0,0)):=by rw[aj,ai];exact zc aC _ rfl
 have j:=H.new (b.trans ak);have Z:=N.trans (H.j3 (b.trans ak));have R:au v=0:=(H.new b).far v oM;have b7:=qqh (Rt (v:=v) j (by rw[za L,Y.o];rfl));have bu:=Y9 j D E Z L R (show w.heap.size<=v from by rw[ai];exact qXr N.upd.size b.size) (J.new (b.trans ak)) (show li<v/\lc<v/\lf<v from by have h1:=(J.new b).i.lt;have h2:=(J.new b).c.lt;have bI:=(J.new b).f.lt;omega);have b8:=Y2 aj ai;clear H D E N U ol V J b ak L j Z R aj ai aD aE;rw[<-b8.o.1,<-b8.o.2];go_wp2_with fail
 refine b7.o.mono ?_;rintro e bv ⟨rfl,b9⟩;have bb:=qqb b9;have bc:=qqh (zcH n.bl A.o.2.2.2.2.2.1.b1 A.o.2.2.2.2.2.1.b2 bv);have a6:=qqh bb;clear b9 bb b7;go_wp2_with fail
 refine bc.o.mono ?_;rintro e aG ⟨M,am,rfl,bd,be,bf,bg⟩;obtain⟨j,D,E,Z,L,R,aH,bh,bx⟩:=bu.o;have a7:=a6.o.trans (uuo bg);have an:=a7.jV L;have bi:=za an 4;have bJ:=zg an 4;rw[Y.o]at bi;simp[vo0]at bi;have bz:=zd L;have bA:=a6.o.size;have a8:=zi aG v 4 (ptr M);have aI:b6.cell? ⟨v,0,none⟩=some (ptr c):=by rw[za L,Y.o];rfl
 have bj:v≠1:=fun e=>by
  have h1:=j.nib.c 0 de;have h2:=aI;rw[e,h1]at h2;cases h2
 have bk:v≠0:=fun e=>by
  have h1:=j.tur.c0;have h2:=aI;rw[e,h1]at h2;cases h2
 have bn:=qqh (show zch own w ssd back n a (.returned (.tuple #[ptr v,.int .i64 0])) (aG.setCell ⟨v,4,none⟩ (ptr M))from
  ⟨v,⟨c,li,lc,lf,M,am⟩,p,au,rfl,⟨(j.new a7).kf a8 (fun s ao=>by rw[ao];exact⟨R,bj,bk⟩),by rw[zh an 4 (ptr M),Y.o];rfl,bd.keep a8 (fun e=>by replace e:M=v:=e;omega) (fun e=>by replace e:am=v:=e;omega),R,
   (j.new a6.o).far M be,(j.new a6.o).far am bf⟩,D,E,⟨aH,by show _<=M;omega,by show _<=am;omega⟩,(bh.new a7).keep a8 (fun s ao _=> .inr (by replace ao:s=v:=ao;show s≠li/\s≠lc/\s≠lf;omega)),(Z.trans (j.j3 a7)).mine a8 aH⟩)
 clear bd be bf bg j D E Z L R aH bh bx a7 an bz bA a8 bj bk aI bc a6;go_wp2
 obtain⟨bB,bo⟩:=qqe (aG.setCell ⟨v,4,none⟩ (ptr M));rw[<-bo]at bn⊢;clear bo;go_loopg[57] 0 (fun gk i wr=>i=.int .i64 0/\wr=bB)
 case atStart=>exact⟨rfl,rfl⟩
 case round=>
  obtain⟨rfl,bC⟩:=hrel;subst bC;go_wp2
  go_ret2
  obtain⟨bK,bD,bE,own',bF,h⟩:=bn.o;cases bF;exact⟨v,bD,bE,own',rfl,h⟩
section
variable{own own':Nat->Nat}{w w' W W':World}{v:Nat}{q:VoP}{n:CaN}{p:CaP}{a a':CaS}{md:Int}{cl:Bool}
def EN(n:CaN)(F:List Bk)(O:List (Nat×Bk)):Prop:=∀j,j<n.lo+n.lo+n.lo->curB F O (1+2*n.pa+n.jo+j)=zB
theorem L3At.y(b:L3At own w li lc lf n p.ssd)(h:CaAt own w c n p a)(s:a.dP=[])(A:EN n a.dF a.dO):LgsZ (fun j=>own j=2\/w.heap.size<=j) w li lc lf p.ssd (1+2*n.pa+n.jo) n.lo a.dF a.dO where
 i:=b.i
 c:=b.c
 f:=b.f
 dv:=by
  have h2:=h.kC;rw[s]at h2;exact h2
 fl:=by rw[h.fl];unfold CaN.size;omega
 nS:=fun j D=> .inr D
 iS:=fun e=>by have:=b.i.lt;rcases e with e|e;rw[b.o.1]at e;cases e;omega
 cS:=fun e=>by have:=b.c.lt;rcases e with e|e;rw[b.o.2.1]at e;cases e;omega
 fS:=fun e=>by have:=b.f.lt;rcases e with e|e;rw[b.o.2.2]at e;cases e;omega
 nib:=h.nib
 nibS:=fun e=>by have:=h.nib.lt;rcases e with e|e;rw[h.on]at e;cases e;omega
 zs:=A
theorem VolAt.dev(j:VolAt own w v q n p a md cl)(D:a.dP=[])(s:Upd (fun b=>own b=2\/w.heap.size<=b) w w')(E:Dv (fun b=>own b=2\/w.heap.size<=b) w' p.ssd a.dF a.dO []):
  ∃own',VolAt own' w' v q n p a md cl/\Did own own' w w'/\∀li lc lf,L3At own w li lc lf n p.ssd->L3At own' w' li lc lf n p.ssd:=by
 have A:=j.ca.kz s E rfl;have d:=j.ca.did2 s;have H:({a with dF:=a.dF,dO:=a.dO,dP:=[]}:CaS)=a:=by cases a;cases D;rfl
 rw[H]at A;refine⟨_,j.did A d,d,fun li lc lf lg=>?_⟩;have k:=lg.keep s (fun b h J=> .inl (by rcases h with h|h;rw[h];decide;omega));exact⟨k.i,k.c,k.f,(d.old _ lg.i.lt).trans lg.o.1,(d.old _ lg.c.lt).trans lg.o.2.1,(d.old _ lg.f.lt).trans lg.o.2.2⟩
def zci(own:Nat->Nat)(w:World)(v:Nat)(q:VoP)(n:CaN)(p:CaP)(a:CaS)(md:Int)(cl:Bool)(u:Value)(e:Ending)(w':World):Prop:=
 e=.returned u/\∃own',VolAt own' w' v q n p a md cl/\Did own own' w w'
theorem EO(b:VolAt own W v q n p a md false)(lg:L3At own W q.li q.lc q.lf n p.ssd)(h:a.dP=[])(j:EN n a.dF a.dO):
  Calls prog 84 #[ptr v] W (zci own W v q n p a md false (.tuple #[.slice none 0 0,.int .i64 0])):=by
 have s:=qqh (zZ b);have c:=za b.g 2;simp[tj]at c;have A:=qqh ((lg.y b.ca h j).allC);have D:=Y2 b h;clear b lg h j;go_enter func84,ntmps84
 go_wp2_with fail
 refine s.o.mono ?_;rintro e w' ⟨rfl,E⟩;rw[E];clear E s;go_wp2_with fail
 refine A.o.mono ?_;rintro e L ⟨rfl,H,J⟩;have K:=qqh (D.o.1.dev D.o.2 J H);clear H J c A;go_wp2
 go_ret2
 obtain⟨own',h1,h2,-⟩:=K.o;exact⟨rfl,own',h1,h2⟩
theorem EP(h:LgsZ S w li lc lf d base k F O)(i:Int):
  Calls prog 154 #[.pointer (some ⟨lc,0,none⟩),.int .i64 i] w fun e w'=>∃j:Int,(j=10\/j=14)/\e=.returned (.tuple #[.agg fLogZC.zL.toArray,.int .i64 j])/\Dv S w' d F O []/\Upd S w w':=by
 by_cases E:i<0\/(k:Int)<=i
 .refine (QD h.c E).mono fun e w' ⟨s,A⟩=>⟨10,.inl rfl,s,h.dv.keep (uuo (S:=fun _=>False) A) (fun _ _ h=>h),(uuo (S:=fun _=>False) A).mono fE⟩
 .obtain ⟨b,rfl⟩:∃b:Nat,i=(b:Int):=⟨i.toNat,oM⟩
  have D:=h.zs (k+b) oM;rw[<-qXl]at D;refine(Ya h.c h.dv h.nS h.cS h.nib h.nibS jl de (an:=b) oM D).mono fun e w' ⟨s,H,J⟩=>⟨14,.inr rfl,s,H,J⟩
theorem EQ(h:LgsZ S w li lc lf d base k F O)(i:Int):
  Calls prog 155 #[.pointer (some ⟨lf,0,none⟩),.int .i64 i] w fun e w'=>∃j:Int,(j=10\/j=14)/\e=.returned (.tuple #[.agg fLogZF.zL.toArray,.int .i64 j])/\Dv S w' d F O []/\Upd S w w':=by
 by_cases E:i<0\/(k:Int)<=i
 .refine (QE h.f E).mono fun e w' ⟨s,A⟩=>⟨10,.inl rfl,s,h.dv.keep (uuo (S:=fun _=>False) A) (fun _ _ h=>h),(uuo (S:=fun _=>False) A).mono fE⟩
 .obtain ⟨b,rfl⟩:∃b:Nat,i=(b:Int):=⟨i.toNat,oM⟩
  have D:=h.zs (k+k+b) oM;rw[<-qXl,<-qXl]at D;refine(Yb h.f h.dv h.nS h.fS h.nib h.nibS jl de (an:=b) oM D).mono fun e w' ⟨s,H,J⟩=>⟨14,.inr rfl,s,H,J⟩
theorem zbB{id:Int}(b:VolAt own W v q n p a md false)(lg:L3At own W q.li q.lc q.lf n p.ssd)(K:a.dP=[])(L:EN n a.dF a.dO):
  Calls prog 82 #[ptr v,.int .i64 id] W (zci own W v q n p a md false (.tuple #[.int .i64 0,.int .i64 14])):=by
 have Z:=qqh (zZ b);have a6:=za b.g 9;have c2:=za b.g 2;simp[tj]at a6 c2;have M:=EP (lg.y b.ca K L) id;obtain⟨j,s⟩:=qqe (fLogZC.zL);rw[<-s]at M;have a7:=qqh M;clear M;have am:Hid (j.length=6):=by subst s;exact rfl
 have an:(prog.info? 213).map (·.size)=some j.length:=by subst s;exact VA
 have ao:∀u∈j,u.oneCell'=true:=by subst s;exact fLogZC.zL_one
 clear s;obtain⟨A,D⟩:=qqe (fLogZF.zL);have ap:Hid (A.length=13):=by subst D;exact rfl
 have aq:(prog.info? 221).map (·.size)=some A.length:=by subst D;exact VB
 have ar:∀u∈A,u.oneCell'=true:=by subst D;exact fLogZF.zL_one
 have au:=qqh D;clear D;have h:=Y4 b lg K L;clear b lg K L;go_enter func82,ntmps82
 go_wp2_with fail
 refine Z.o.mono ?_;rintro e w' ⟨rfl,a8⟩;rw[a8];clear a8 Z;go_wp2_with fail
 go_loopg[23] 0 (fun gk i wr=>i=.int .i64 0/\wr=W)
 case atStart=>exact⟨rfl,rfl⟩
 case round=>
  obtain⟨rfl,aa⟩:=hrel;rw[aa];clear aa;go_wp2_with fail
  refine a7.o.mono ?_;rintro e av ⟨aA,aw,rfl,ab,ad⟩;obtain⟨aB,N,ae,af⟩:=h.o.1.dev h.o.2.2.1 ad ab;obtain⟨aC,E⟩:=qqe (av.alloc (.cells j.toArray 213));have H:=qqu E;have J:=N.new H;have ag:=(af _ _ _ h.o.2.1).keep H (fun _ b=>b.elim);have P:=za J.g 3;simp[tj]at P;have R:=EQ (ag.y J.ca h.o.2.2.1 h.o.2.2.2) id;rw[<-au.out]at R;have ah:=qqh R;clear R;have T:=Y3 J (ae.trans (N.ca.j3 H)) E;rw[E]at P;clear a7 J ag H af ae N ad ab E c2;rcases aw with rfl|rfl
  all_goals
   go_wp2_with (first
    |(refine zk rfl _ _ _ rfl _ _ j rfl rfl (by rw[am.out];rfl) an ao ?_)
    |fail)
   rw[<-T.o.2.2];refine ah.o.mono ?_;rintro e ax ⟨aD,ay,rfl,ai,aj⟩;obtain⟨az,U,ak,-⟩:=T.o.1.dev h.o.2.2.1 aj ai;obtain⟨aE,V⟩:=qqe (ax.alloc (.cells A.toArray 221));have X:=qqu V;have Y:=Y3 (U.new X) ((T.o.2.1.trans ak).trans (U.ca.j3 X)) V;clear ah U ak ai aj X V P a6;rcases ay with rfl|rfl
   all_goals
    go_wp2_with (first
     |(refine zk rfl _ _ _ rfl _ _ A rfl rfl (by rw[ap.out];rfl) aq ar ?_)
     |fail)
    rw[<-Y.o.2.2];go_wp2
    go_ret2
    exact⟨rfl,az,Y.o.1,Y.o.2.1⟩
end
section
variable{own:Nat->Nat}{w:World}{c:Nat}{n:CaN}{p:CaP}{a:CaS}
theorem zbC(b:LgsZ S w li lc lf d base k F O):
  Calls prog 151 #[.agg #[ptr li,ptr lc,ptr lf]] w fun e w'=>e=.returned (.tuple #[.int .i64 0,.int .i64 0])/\Dv S w' d F O []/\Upd S w w':=by
 obtain⟨w1,h⟩:=qqe (w.alloc (.cells #[ptr li,ptr lc,ptr lf] 93));have j:=qqu h;have A:=qqh ((b.box j).allI);have s:=Y3 h j b;clear h j b;go_enter func151,ntmps151
 go_wp2_with fail
 rw[<-s.o.1];refine A.o.mono ?_;rintro e J ⟨rfl,D,E⟩;have H:=qqh (s.o.2.2.back s.o.2.1 D E);clear D E A;go_wp2
 go_ret2
 exact⟨rfl,H.o.1,H.o.2⟩
theorem zbD(h:CaAt own w c n p a)(J:inS n.bl f m):Calls prog 136 #[ptr c,ut f m] w fun e w'=>e=.returned (.bool true)/\Below w.heap.size w w':=by
 obtain⟨w1,b⟩:=qqe (w.alloc (.cells #[.int .i64 f,.int .i64 m] 50));have j:=qqu b;have E:=qqg b;have K:=qqh (xH (h.new j));obtain⟨L,M,N,R⟩:=J;have T:=h.ok.b2;have q1:f>=0:=oM;have q2:m>=1:=oM;have Y:f<=(n.bl:Int):=oM;have Z:IntKind.i64.wrap ((n.bl:Int)-f)=(n.bl:Int)-f:=qxt _ oM;have a6:m<=(n.bl:Int)-f:=oM;have a7:=yO (n.id:Int) (n.bl:Int) (n.sl:Int) (n.jo:Int) (n.pa:Int) (n.lo:Int) (n.ba:Int);have s:=Y3 b j E;clear h b j E T L M N R;go_enter func136,ntmps136
 go_upto_region 1 with fail
 rw[<-s.o.1];go_wp2_with fail
 refine K.o.mono ?_;rintro e a8 ⟨rfl,H⟩;have A:=qqb H;have D:=A.jV s.o.2.2;have U:=za D 0;have V:=za D 1;simp at U V;have X:=qqh (s.o.2.1.trans A);clear H A D;go_wp2
 go_ret
 exact⟨rfl,X.o.below⟩
theorem ER(h:CaAt own w c n p a)(A:inS n.bl f m):Calls prog 73 #[ptr c,.agg #[ptr li,ptr lc,ptr lf],ut f m] w fun e w'=>e=.returned (.int .i64 0)/\Below w.heap.size w w':=by
 obtain⟨V,R⟩:=qqe (w.heap.size+1);obtain⟨w1,b⟩:=qqe ((w.alloc (.cells #[ptr li,ptr lc,ptr lf] 93)).alloc (.cells #[.int .i64 f,.int .i64 m] 50));have s:Upd (fun _=>False) w w1:=by rw[b];exact((uur _ w).alloc _).alloc _
 have j:w1.heap[w.heap.size]?=some (.cells #[ptr li,ptr lc,ptr lf] 93 (0,0)):=by rw[b];exact(qxk _ _ _ oe).trans (zc w _ rfl)
 have D:w1.heap[w.heap.size+1]?=some (.cells #[.int .i64 f,.int .i64 m] 50 (0,0)):=by rw[b];exact zc _ _ oe
 have E:=zf D;have H:=za j 0;have J:=za j 1;have K:=za j 2;simp at H J K;have T:=zV;have L:=qqh (zbD (h.new s) A);have M:=Y2 b s;clear h b s j D R A;go_enter func73,ntmps73
 go_upto_region 1 with fail
 rw[<-M.o.1];go_wp2_with (first
  |(refine qZa rfl _ _ rfl _ _ rfl _ _ E underlying50 rfl T ?_)
  |fail)
 refine L.o.mono ?_;rintro e X ⟨rfl,N⟩;have U:=qqh (M.o.2.trans (uuo N));clear N L E H J K;go_wp2
 go_ret
 exact⟨rfl,U.o.below⟩
theorem ES:(prog.info? 93).map (·.size)=some 3:=kR
abbrev puC(c li lc lf:Nat)(f m:Int):List Value:=[ptr c,ptr li,ptr lc,ptr lf,.int .i64 0,.int .i64 0,.int .i64 f,.int .i64 m,.int .i64 1,.pointer none,.bool false,.slice none 0 0,.slice none 0 0]
theorem ET(h:CaAt own w c n p a)(lg:LgsZ S w li lc lf d base n.lo F O)(a6:O.length<65000)(N:inS n.bl f m):
  Calls prog 152 #[ptr c,.agg #[ptr li,ptr lc,ptr lf],.int .i64 0,ut f m] w fun e w'=>∃R,e=.returned (.tuple #[ptr R,.int .i64 0])/\w.heap.size<=R/\w'.heap[R]?=some (.cells (puC c li lc lf f m).toArray 154 (0,0))/\Upd S w w':=by
 obtain⟨H,J⟩:=qqe (w.heap.size);obtain⟨w1,A⟩:=qqe ((w.alloc (.cells #[ptr li,ptr lc,ptr lf] 93)).alloc (.cells #[.int .i64 f,.int .i64 m] 50));have T:Upd (fun _=>False) w w1:=by rw[A];exact((uur _ w).alloc _).alloc _
 have U:w1.heap[H]?=some (.cells #[ptr li,ptr lc,ptr lf] 93 (0,0)):=by rw[A,J];exact(qxk _ _ _ oe).trans (zc w _ rfl)
 have V:w1.heap[H+1]?=some (.cells #[.int .i64 f,.int .i64 m] 50 (0,0)):=by rw[A,J];exact zc _ _ oe
 have a7:=zf U;have a8:=zf V;have aa:=zV;have hsl:=ES;have ab:=qqh (ER (h.new T) (li:=li) (lc:=lc) (lf:=lf) N);have b:=Y10 A T J U V lg a6 N h.ok.b2 h.ok.l1;clear h A T U V J N lg a6;go_enter func152,ntmps152
 go_upto_region 1 with fail
 rw[<-b.o.1,<-b.o.2.2.1];go_wp2_with (first
  |(refine qZa rfl _ _ rfl _ _ rfl _ _ a8 underlying50 rfl aa ?_)
  |(refine qZa rfl _ _ rfl _ _ rfl _ _ a7 underlying93 rfl hsl ?_)
  |fail)
 refine ab.o.mono ?_;rintro e K ⟨rfl,ad⟩;have s:=qqb ad;have ae:=zf (s.jV b.o.2.2.2.2.1);obtain⟨af,D⟩:=qqe (K.alloc (.cells #[.int .i64 0,.int .i64 0,.int .i64 f,.int .i64 m] 107));obtain⟨ag,X⟩:=qqe (K.heap.size);have L:=qqu D;have ah:af.heap[ag]?=some (.cells #[.int .i64 0,.int .i64 0,.int .i64 f,.int .i64 m] 107 (0,0)):=by rw[D,X];exact zc K _ rfl
 have Y:=za (L.jV (s.jV b.o.2.2.2.1)) 0;simp at Y;rw[D]at Y;have Z:=b.o.2.1.trans (s.trans L);have ai:H+1<K.heap.size:=zd (s.jV b.o.2.2.2.2.1);have aj:=qqh (zdz (b.o.2.2.2.2.2.1.box Z) b.o.2.2.2.2.2.2.2.2.2 b.o.2.2.2.2.2.2.1 b.o.2.2.2.2.2.2.2.2.1 b.o.2.2.2.2.2.2.2.1);have j:=Y6 D Z X ah ai (L.jV (s.jV b.o.2.2.2.1));clear ad s D L ah Z ai X ab a7 a8;go_wp2_with (first
  |(refine qZa rfl _ _ rfl _ _ rfl _ _ ae underlying50 rfl aa ?_)
  |fail)
 rw[<-j.o.1,<-j.o.2.2.1];refine aj.o.mono ?_;rintro e E ⟨rfl,M⟩;have aq:E.rangeAt ag 0 [.int .i64 0,.int .i64 0,.int .i64 f,.int .i64 m]:=M.range (zf j.o.2.2.2.1) (fun e=>by
  have:=j.o.2.2.1;have:=j.o.2.2.2.2.1;have:=b.o.2.2.1;have:=zd j.o.2.2.2.1;rcases e with e|e<;>omega)
 have ar:E.rangeAt H 0 [ptr li,ptr lc,ptr lf]:=M.range (zf j.o.2.2.2.2.2) (fun e=>by
  have:=b.o.2.2.1;have:=zd j.o.2.2.2.2.2;rcases e with e|e<;>omega)
 have ak:=b.o.2.2.2.2.2.1.nS;have am:Upd S w af:=j.o.2.1.mono fE;have au:=j.o.2.1.size;have an:=am.new M (fun i ax ao=>ao.elim (fun h=>h.1) (fun ao=>oM));have ap:=Y2 an ak;have av:=wv;clear M an am ak aj ae Y au;go_wp2_with (first
  |(refine qZa rfl _ _ rfl _ _ rfl _ _ aq underlying107 rfl av ?_)
  |(refine qZa rfl _ _ rfl _ _ rfl _ _ ar underlying93 rfl hsl ?_)
  |fail)
 go_ret2
 have aw:w.heap.size<=E.heap.size:=ap.o.1.size;refine⟨E.heap.size,rfl,aw,zc E _ rfl,?_⟩;exact(ap.o.1.alloc _)
end
section
variable{own:Nat->Nat}{w:World}{v:Nat}{q:VoP}{n:CaN}{p:CaP}{a:CaS}{md:Int}{cl:Bool}
theorem Ru{b:Nat}(g:w.heap[b]?=some (.cells (puC c li lc lf f m).toArray 154 (0,0))):
  Calls prog 74 #[ptr b] w fun e w'=>e=.returned (.agg #[.int .i64 0,.int .i64 0,.int .i64 f,.int .i64 m])/\Below w.heap.size w w':=by
 have j:w.rangeAt b 4 [.int .i64 0,.int .i64 0,.int .i64 f,.int .i64 m]:=fun h u s=>(qXy (4+h))▸(zf g) (4+h) u (by
  have A:=(qyl.1 s).1;replace A:h<4:=A;rcases(show h=0\/h=1\/h=2\/h=3 by omega)with rfl|rfl|rfl|rfl<;>exact s)
 have D:=qYj j (.cells #[.int .i64 0,.int .i64 0,.int .i64 0,.int .i64 0] 107);have E:=wv;clear g j;go_enter func74,ntmps74
 go_wp2_with (first
  |(refine qZa rfl _ _ rfl _ _ rfl _ _ D underlying107 rfl E ?_)
  |fail)
 exact qYq (zq rfl _ _ w.heap.size 0 [.int .i64 0,.int .i64 0,.int .i64 f,.int .i64 m] _ rfl (zf (zc w _ rfl)) underlying107 rfl wv) rfl ⟨rfl,(qxl _ w).alloc (qXp _) _⟩
theorem zbE(a7:w.heap[v]?=some (.cells (tj q md cl).toArray 102 (0,0)))(a8:vj w q.lb q.mb n.bl)(aa:n.bl<=4096){b:Nat}(ab:inS n.bl f m)(g:w.heap[b]?=some (.cells (puC c li lc lf f m).toArray 154 (0,0))):
  Calls prog 40 #[ptr v,ptr b] w fun e w'=>e=.returned (.int .i64 0)/\Upd (fun D=>D=q.mb) w w':=by
 have ad:=qqh (Ru g);have s:=Y3 (And.intro a7 a8) ab aa;clear a7 a8 aa ab g;go_enter func40,ntmps40
 go_wp2_with fail
 refine ad.o.mono ?_;rintro e M ⟨rfl,N⟩;obtain⟨j,J⟩:=qqe (M.alloc (.cells #[.int .i64 0,.int .i64 0,.int .i64 f,.int .i64 m] 107));obtain⟨A,R⟩:=qqe (M.heap.size);have K:Upd (fun _=>False) w j:=by rw[J];exact(uuo N).alloc _
 have L:j.heap[A]?=some (.cells #[.int .i64 0,.int .i64 0,.int .i64 f,.int .i64 m] 107 (0,0)):=by rw[J,R];exact zc M _ rfl
 have T:=za (K.jV s.o.1.1) 4;simp[tj]at T;have U:=za L 0;have V:=za L 2;have X:=za L 3;simp at U V X;have ae:j.rangeAt A 2 [.int .i64 f,.int .i64 m]:=fun D u Y=>by
  rcases D with _|_|D
  .cases Y;exact V
  .cases Y;exact X
  .simp at Y
 have af:=qqh (zaC ((s.o.1.2.new K).new (uur (fun _=>False) j).drew) s.o.2.2 (id:=0) oM s.o.2.1);have aj:=underlying50;have ak:=zV;have am:v≠q.mb:=fun e=>by
  have ag:=s.o.1.1;obtain⟨av,⟨aw,ax,an,-⟩,-⟩:=s.o.1.2.2;rw[e,an]at ag;cases ag
 have ah:A≠q.mb:=fun e=>by
  have:=s.o.1.2.2.lt;have:=N.size;omega
 have Z:=Y3 J R K;clear J R K L V X N ad;go_upto_region 2 with fail
 rw[<-Z.o.1,<-Z.o.2.1];refine qZd (S:=fun W=>W.cell? ⟨v,4,none⟩=some (ptr q.lb)/\W.cell? ⟨A,0,none⟩=some (.int .i64 0)/\W.rangeAt A 2 [.int .i64 f,.int .i64 m]) kR (⟨by rw[qYi];exact T,by rw[qYi];exact U,by rw[qYk];exact ae⟩) (fun ai=>?_);refine Wl.i [0,1,2,3,4,5,6] ?_;iterate 7 refine Wl.t ai ?_
 refine Wl.o ?_;refine Wl.l 7 (fun w h=>h.2.2) aj ak ai ?_;refine Wl.r 8 (fun a6 E=>?_);go_simp
 refine af.o.mono ?_;rintro e ay ⟨rfl,H⟩;have ao:=H.jU (show j.drew.cell? ⟨v,4,none⟩=some (ptr q.lb) by rw[qYi];exact T) am;have ap:=H.jU (show j.drew.cell? ⟨A,0,none⟩=some (.int .i64 0) by rw[qYi];exact U) ah;have aq:=H.range (show j.drew.rangeAt A 2 [.int .i64 f,.int .i64 m] by rw[qYk];exact ae) ah;have ar:=qqh ((uur (fun D=>D=q.mb) j).drew.trans H);clear H af;refine E.o _ _ (⟨ao,ap,aq⟩) (fun au=>?_);clear E a6;refine Wl.r 9 (fun a6 E=>?_);go_simp
 refine E.o _ _ (au) (fun az=>?_);clear E a6;refine Wl.d ?_;go_wp2
 go_ret
 exact⟨rfl,(Z.o.2.2.mono fE).trans ar.o⟩
theorem zdY:(prog.info? 108).map (fun i=>(i.zero,i.size,i.bytes))=some (some (.pointer none),1,8):=kR
theorem EU(h:VolAt own w v q n p a md false)(lg:L3At own w q.li q.lc q.lf n p.ssd)(au:a.dP=[])(av:EN n a.dF a.dO)(aw:a.dO.length<65000)(ab:inS n.bl f m):
  Calls prog 81 #[ptr v,ut f m] w fun e w'=>e=.returned (.tuple #[.int .i64 0,.int .i64 0])/\Upd (fun b=>b=v\/b=q.mb\/own b=2\/w.heap.size<=b) w w':=by
 obtain⟨L,ad⟩:=qqe (w.heap.size);obtain⟨w1,X⟩:=qqe (w.alloc (.cells #[.int .i64 f,.int .i64 m] 50));have Y:=qqu X;have ae:w1.heap[L]?=some (.cells #[.int .i64 f,.int .i64 m] 50 (0,0)):=by rw[X,ad];exact zc w _ rfl
 have ax:=zf ae;have h1:=h.new Y;have aY:=qqh (h.ca.far L oM);have ay:=qqh (zZ h1);have az:=qqh (YC h1 ab);have aA:=zV;have hsl:=ES;have s:=Y10 h1 (lg.new Y) au av aw ab X ad Y ae;clear h lg au av aw ab X ad Y ae h1;go_enter func81,ntmps81
 go_upto_region 1 with fail
 rw[<-s.o.2.2.2.2.2.2.1,<-s.o.2.2.2.2.2.2.2.1];go_wp2_with fail
 refine ay.o.mono ?_;rintro e w' ⟨rfl,aB⟩;rw[aB];clear aB ay;go_wp2_with (first
  |(refine qZa rfl _ _ rfl _ _ rfl _ _ ax underlying50 rfl aA ?_)
  |fail)
 refine az.o.mono ?_;rintro e af ⟨rfl,aC⟩;have M:=qqb aC;have h2:=s.o.1.new M;have ag:=s.o.2.1.new M;have aD:af.rangeAt v 1 [ptr q.li,ptr q.lc,ptr q.lf]:=fun b u N=>(qXy (1+b))▸(zf h2.g) (1+b) u (by
  have j:=(qyl.1 N).1;replace j:b<3:=j;rcases(show b=0\/b=1\/b=2 by omega)with rfl|rfl|rfl<;>exact N)
 have aE:=qqh (zbC (ag.y h2.ca s.o.2.2.1 s.o.2.2.2.1));have ah:=Y3 h2 ag (M.jV s.o.2.2.2.2.2.2.2.2.2);have aF:=qqh (s.o.2.2.2.2.2.2.2.2.1.trans M);clear h2 ag M aC az ax;go_wp2_with (first
  |(refine qZa rfl _ _ rfl _ _ rfl _ _ aD underlying93 rfl hsl ?_)
  |fail)
 refine aE.o.mono ?_;rintro e D ⟨rfl,aG,J⟩;obtain⟨aH,j,R,aI⟩:=ah.o.1.dev s.o.2.2.1 J aG;have aJ:=aI _ _ _ ah.o.2.1;have Z:=R.zero ah.o.2.2 aY.out;have a6:=(uur (fun _=>False) D).drew;have a7:=j.new a6;have T:∀b,aH b=0->b<D.heap.size->¬(aH b=2\/D.drew.heap.size<=b):=fun b aZ bj e=>by
  have:=a6.size;rcases e with e|e
  .rw [aZ]at e;cases e
  .omega
 have aK:=T v j.o1 (zd j.g);have aL:=T L Z.2 (zd Z.1);have aM:=T q.lb j.o2 (zd j.lk.1);have aN:=T q.mb j.o3 j.lk.2.lt;have aO:=qqh (ET a7.ca ((aJ.new a6).y a7.ca s.o.2.2.1 s.o.2.2.2.1) s.o.2.2.2.2.1 s.o.2.2.2.2.2.1);have a8:=za j.g 0;simp[tj]at a8;have ai:D.rangeAt v 1 [ptr q.li,ptr q.lc,ptr q.lf]:=fun b u N=>(qXy (1+b))▸(zf j.g) (1+b) u (by
  have j:=(qyl.1 N).1;replace j:b<3:=j;rcases(show b=0\/b=1\/b=2 by omega)with rfl|rfl|rfl<;>exact N)
 have aj:=zf Z.1;have b0:=underlying50;have b1:=underlying93;have A:=Y6 j a7 (And.intro aK aL) (And.intro aM aN) R J;clear j a7 R aI aJ Z T aK aL aM aN aG J a6 aE aD;go_upto_region 10 with fail
 refine qZd (S:=fun W=>W.cell? ⟨v,0,none⟩=some (ptr q.c)/\W.rangeAt v 1 [ptr q.li,ptr q.lc,ptr q.lf]/\W.rangeAt L 0 [.int .i64 f,.int .i64 m]) kR (⟨by rw[qYi];exact a8,by rw[qYk];exact ai,by rw[qYk];exact aj⟩) (fun aa=>?_);refine Wl.i [0,1,2,3,4,5,6] ?_;iterate 7 refine Wl.t aa ?_
 refine Wl.o ?_;refine Wl.l 7 (fun w h=>h.2.1) b1 hsl aa ?_;refine Wl.i [8] (Wl.t aa (Wl.o ?_));refine Wl.l 9 (fun w h=>h.2.2) b0 aA aa ?_;refine Wl.r 10 (fun U E=>?_);go_simp
 refine aO.o.mono ?_;rintro e bk ⟨ak,rfl,bn,aP,H⟩;have b3:=H.jU (show D.drew.cell? ⟨v,0,none⟩=some (ptr q.c) by rw[qYi];exact a8) A.o.2.2.1.1;have b4:=H.range (show D.drew.rangeAt v 1 [ptr q.li,ptr q.lc,ptr q.lf] by rw[qYk];exact ai) A.o.2.2.1.1;have b5:=H.range (show D.drew.rangeAt L 0 [.int .i64 f,.int .i64 m] by rw[qYk];exact aj) A.o.2.2.1.2;have am:=(H.block v (zd A.o.2.1.g) A.o.2.2.1.1).trans A.o.2.1.g;have an:=A.o.2.1.lk.keep H A.o.2.2.2.1.1 A.o.2.2.2.1.2;have aQ:=qqh (zbE am an A.o.1.ca.ok.b2 s.o.2.2.2.2.2.1 aP);have V:=Y3 am an H;clear H am an aO aP;refine E.o _ _ (⟨b3,b4,b5⟩) (fun aR=>?_);clear E U;refine Wl.i [11,12,13] ?_;iterate 3 refine Wl.t aR ?_
 refine Wl.o ?_;refine Wl.r 14 (fun U E=>?_);go_simp
 refine E.o _ _ (aR) (fun b6=>?_);clear E U;refine Wl.r 15 (fun U E=>?_);go_simp
 refine E.o _ _ (b6) (fun bo=>?_);clear E U;refine Wl.d ?_;go_wp2_with fail
 refine aQ.o.mono ?_;rintro e ao ⟨rfl,ap⟩;have aS:v≠q.mb:=fun e=>by
  have aT:=V.o.1;obtain⟨bp,⟨bq,br,b7,-⟩,-⟩:=V.o.2.1.2;rw[e,b7]at aT;cases aT
 have aq:=(ap.block v (zd V.o.1) aS).trans V.o.1;have b8:=za aq 9;simp[tj]at b8;have ar:=Y2 aq ap;obtain⟨b9,ba,bb,bc,bd⟩:=qYu zdY;have be:∀u∈[ptr ak],u.oneCell'=true:=by intro u aU;simp at aU;subst aU;rfl
 clear aS aq ap aQ a8 ai aj;go_wp2_with (at_builtin;refine zF rfl _ _ 100 rfl b9 (.pointer none) 8 underlying100 ba bb bc bd rfl de rfl (Sl.nil _ _ _) _ 1 [ptr ak] rfl (Rd.fresh ao [ptr ak] 108 1 (k:=1) (m:=1) rfl (by simp[maxLen])) be (by simp[maxLen]) oe ?_)
 intro bs aV aW K bf;obtain⟨bt,bu,rfl⟩:=aW.rd.jW;have K:Upd (fun _=>False) ao aV:=((uur (fun _=>False) ao).alloc _).trans (K.mono (fun b _ h=>by simp[ownS,Value.ownBlock]at h));have bg:=za (K.jV ar.o.1) 9;have bv:=zg (K.jV ar.o.1) 9;simp[tj]at bg;have bh:=qqh K;clear aW bf K;go_wp2
 go_ret2
 refine⟨rfl,?_⟩;obtain⟨-,-,-,-,R,J⟩:=A.o;have bx:=aF.o.size;have bi:Upd (fun b=>b=v\/b=q.mb\/own b=2\/w.heap.size<=b) w af:=aF.o.mono fE;have aX:=bi.trans (J.mono (fun b _ h=>h.elim (fun h=> .inr (.inr (.inl h))) (fun h=> .inr (.inr (.inr oM)))));have bz:=aX.size;have bA:=J.size;have bB:=(uur (fun _=>False) D).drew.size;have u3:=aX.trans ((uur _ D).drew.trans (V.o.2.2.mono (fun b _ h=>by
  rcases h with h|h
  .by_cases e:b<af.heap.size
   .rw [R.old b e]at h;exact .inr (.inr (.inl h))
   .exact .inr (.inr (.inr oM))
  .exact .inr (.inr (.inr oM)))))
 exact((u3.trans (ar.o.2.mono (fun _ _ h=> .inr (.inl h)))).trans (bh.o.mono fE)).trans ((zi aV v 9 _).mono (fun _ _ h=> .inl h))
theorem WE(A:VolAt own w v q n p a md false)(D:¬inS n.bl f m):
  Calls prog 81 #[ptr v,ut f m] w fun e w'=>e=.returned (.tuple #[.int .i64 0,.int .i64 10])/\Upd (fun _=>False) w w':=by
 obtain⟨N,h⟩:=qqe (w.heap.size);obtain⟨w1,b⟩:=qqe (w.alloc (.cells #[.int .i64 f,.int .i64 m] 50));have j:=qqu b;have E:w1.heap[N]?=some (.cells #[.int .i64 f,.int .i64 m] 50 (0,0)):=by rw[b,h];exact zc w _ rfl
 have H:=zf E;have h1:=A.new j;have J:=qqh (zZ h1);have K:=qqh (uq h1 D);have P:=zV;have s:=Y3 b h j;clear A D b h j E h1;go_enter func81,ntmps81
 go_upto_region 1 with fail
 rw[<-s.o.1,<-s.o.2.1];go_wp2_with fail
 refine J.o.mono ?_;rintro e w' ⟨rfl,L⟩;rw[L];clear L J;go_wp2_with (first
  |(refine qZa rfl _ _ rfl _ _ rfl _ _ H underlying50 rfl P ?_)
  |fail)
 refine K.o.mono ?_;rintro e T ⟨rfl,M⟩;have R:=qqh (s.o.2.2.trans (uuo M));clear M K H;go_wp2
 go_ret2
 exact⟨rfl,R.o⟩
end
section
variable{own own':Nat->Nat}{w w' W W':World}{r v:Nat}{q:VoP}{n:CaN}{p:CaP}{a a':CaS}{md md':Int}{cl cl':Bool}
theorem Ty(W:World)(ak:Option Addr)(ck:Nat):Rd W 1 (.slice ak 0 ck) ([]:List Bool).length (zcd []):=⟨rfl,qXz _,ak,ck,rfl,fun _=>rfl,fun _ _ _ _ h=>by cases h⟩
theorem zhv(ak:Option Addr)(nk ck:Nat):∃a1,(∀W:World,(Instr.slice 23 (.slice ak nk ck) none (some (.int .i64 0)) none).run prog W=.ok (.slice a1 0 ck) W)/\∀W:World,(Instr.slice 23 (.slice ak nk ck) (some (.int .i64 0)) (some (.int .i64 0)) none).run prog W=.ok (.slice a1 0 ck) W:=
 ⟨if ck=0 then ak else ak.map (·.add (0*1)),fun W=>kR,fun W=>kR⟩
theorem WF{d fr fi:Int}{B nk ck:Nat}{ak:Option Addr}(aa:min (nk:Int) (a.dO.length:Int)=0/\min (nk:Int) (a.bO.length:Int)=0)(aZ:B<=w.heap.size)(h:RunAt own w r v q n p a md cl)(hsl:2<=n.sl)(an:∀J aF x y,Dvs J aF x y a.dF [] a.bF [] []->Calls prog 34 #[ptr x,ptr y] aF (ti J aF x y n a')):
  Calls prog 52 #[ptr r,xI d fr m fi (.slice ak nk ck)] w (yg (fun M _=>B<=M) own w r v n 0 0 [] a' 0 false):=by
 have bo:=qqh aZ;clear aZ;obtain⟨ob,ao⟩:=qqe (w.heap.size);obtain⟨w1,ap⟩:=qqe ((w.alloc (.cells #[.int .i64 d,.int .i64 fr,.int .i64 m,.int .i64 fi,.slice ak nk ck] 25)).alloc (.cells #[.int .i64 0,.int .i64 0,.slice none 0 0] 45));have aG:Upd (fun _=>False) w w1:=by rw[ap];exact((uur _ w).alloc _).alloc _
 have b0:w1.heap[ob]?=some (.cells #[.int .i64 d,.int .i64 fr,.int .i64 m,.int .i64 fi,.slice ak nk ck] 25 (0,0)):=by rw[ap,ao];exact(qxk _ _ _ oe).trans (zc w _ rfl)
 have N:Bo own w1 (ob+1) #[.int .i64 0,.int .i64 0,.slice none 0 0] 45:=⟨by rw[ap,ao];exact zc _ _ oe,h.vo.ca.far _ oM⟩
 have h1:=h.new aG;have K:w1.cell? ⟨ob,4,none⟩=some (.slice ak nk ck):=za b0 4;have R:=za h1.g 3;have L:=za h1.g 4;simp at R L;have V:1<ob+1/\0<ob+1:=by have:=h.vo.ca.nib.lt;have:=h.vo.ca.tur.lt;omega
 have X:w.heap.size<=ob+1:=oM;have a6:r<ob:=by rw[ao];exact zd h.g
 have b1:=fun W (T:Upd (fun _=>False) w1 W)=>zbU (h1.new T).vo.ca.ssd;have b2:=fun W (T:Upd (fun _=>False) w1 W)=>zbU (h1.new T).vo.ca.back;have ab:=(uur (fun _=>False) w1).drew;have av:IntKind.i64.wrap (a.bO.length:Int)=(a.bO.length:Int):=qxt _ (by have:=h1.vo.ca.back.good.ol;omega);obtain⟨bN,bP⟩:=aa;obtain⟨a1,aH,bQ⟩:=zhv ak nk ck;have b3:=fun W (T:Upd (fun _=>False) w1 W)=>Jf (h1.new T).vo.ca.ssd (Ty W a1 ck) (qXz _);have b4:=fun W (T:Upd (fun _=>False) w1 W)=>Jf (h1.new T).vo.ca.back (Ty W a1 ck) (qXz _);have b5:=Y2 b3 b4;have bp:w1.rangeAt r 0 polC:=fun b u A=>(zf h1.g) b u (by
  have D:=(qyl.1 A).1;replace D:b<3:=D;rcases(show b=0\/b=1\/b=2 by omega)with rfl|rfl|rfl<;>exact A)
 generalize (a.dO.length:Int)=bR at*;generalize (a.bO.length:Int)=bS at*;have b6:=Y2 b1 b2;have bq:=Y8 h1 (h.vo.ca.j3 aG) N V X a6 hsl an;have b7:=Y2 ap ao;clear b3 b4 h h1 N aG b0 ap ao V X a6 hsl an b1 b2;go_enter func52,ntmps52
 go_upto_region 1 with fail
 rw[<-b7.o.1,<-b7.o.2];refine qZd (S:=fun W=>W.cell? ⟨ob,4,none⟩=some (.slice ak nk ck)/\W.cell? ⟨r,3,none⟩=some (ptr p.ssd)) kR (⟨by rw[qYi];assumption,by rw[qYi];assumption⟩) (fun E=>?_);refine Wl.i [0,1,2,3,4,5,6] ?_;iterate 7 refine Wl.t E ?_
 refine Wl.o ?_;refine Wl.r 7 (fun s j=>?_);go_simp
 refine(b6.o.1 _ ab).mono ?_;rintro e br ⟨rfl,av⟩;rw[av];refine j.o _ _ (E) (fun H=>?_);clear j s;refine Wl.i [8] (Wl.t H (Wl.o ?_));refine Wl.r 9 (fun s j=>?_);go_simp
 refine j.o _ _ (H) (fun a7=>?_);clear j s;refine Wl.d ?_;have K:=ab.jU K id;have R:=ab.jU R id;have L:=ab.jU L id;generalize bs:w1.drew=aI at*;clear E bs;have b8:=ab.trans (uur (fun _=>False) aI).drew;go_upto_region 2 with fail
 refine qZd (S:=fun W=>W.cell? ⟨ob,4,none⟩=some (.slice ak nk ck)/\W.cell? ⟨r,4,none⟩=some (ptr p.back)) kR (⟨by rw[qYi];assumption,by rw[qYi];assumption⟩) (fun E=>?_);refine Wl.i [0,1,2,3,4,5,6,7] ?_;iterate 8 refine Wl.t E ?_
 refine Wl.o ?_;refine Wl.r 8 (fun s j=>?_);go_simp
 refine(b6.o.2 _ b8).mono ?_;rintro e br ⟨rfl,av⟩;rw[av];refine j.o _ _ (E) (fun H=>?_);clear j s;refine Wl.i [9,10] ?_;iterate 2 refine Wl.t H ?_
 refine Wl.o ?_;refine Wl.r 11 (fun s j=>?_);go_simp
 refine j.o _ _ (H) (fun a7=>?_);clear j s;refine Wl.d ?_;have aw:=(uur (fun _=>False) aI).drew;have K:=aw.jU K id;have R:=aw.jU R id;have L:=aw.jU L id;generalize bt:aI.drew=aJ at*;clear E bt aw ab;have aK:=(uur (fun _=>False) aJ).drew;have aL:=b8.trans aK;go_upto_region 3 with fail
 refine qZd (S:=fun W=>W.cell? ⟨ob,4,none⟩=some (.slice ak nk ck)/\W.cell? ⟨r,3,none⟩=some (ptr p.ssd)) kR (⟨by rw[qYi];assumption,by rw[qYi];assumption⟩) (fun E=>?_);refine Wl.i [0,1,2,3,4,5,6,7] ?_;iterate 8 refine Wl.t E ?_
 refine Wl.o ?_;refine Wl.r 8 (fun s j=>?_);go_simp
 refine(b5.o.1 _ aL).mono ?_;rintro e aM ⟨x,rfl,hx,aN⟩;have ax:=aK.trans (uuo (S:=fun _=>False) aN);have K:=ax.jU K id;have R:=ax.jU R id;have L:=ax.jU L id;have bu:=aL.trans (uuo (S:=fun _=>False) aN);have bv:=Y2 hx (show w1.heap.size<=aJ.drew.heap.size from aL.size);clear aN ax hx;refine j.o _ _ (⟨K,R⟩) (fun H=>?_);clear j s;refine Wl.i [9,10,11] ?_;iterate 3 refine Wl.t H ?_
 refine Wl.o ?_;refine Wl.r 12 (fun s j=>?_);go_simp
 refine j.o _ _ (H) (fun a7=>?_);clear j s;refine Wl.r 13 (fun s j=>?_);go_simp
 refine j.o _ _ (a7) (fun bx=>?_);clear j s;refine Wl.d ?_;clear E H a7;clear aK R;go_upto_region 6 with fail
 have aO:=(uur (fun _=>False) aM).drew;have aP:=bu.trans aO;refine qZd (S:=fun W=>W.cell? ⟨ob,4,none⟩=some (.slice ak nk ck)/\W.cell? ⟨r,4,none⟩=some (ptr p.back)) kR (⟨by rw[qYi];assumption,by rw[qYi];assumption⟩) (fun E=>?_);refine Wl.i [0,1,2,3,4,5,6,7,8] ?_;iterate 9 refine Wl.t E ?_
 refine Wl.o ?_;refine Wl.r 9 (fun s j=>?_);go_simp
 refine(b5.o.2 _ aP).mono ?_;rintro e U ⟨y,rfl,hy,ay⟩;have Y:=aO.trans (uuo (S:=fun _=>False) ay);have K:=Y.jU K id;have L:=Y.jU L id;have bz:=Y3 hy Y ay;have aq:=aP.trans (uuo (S:=fun _=>False) ay);clear ay Y hy;refine j.o _ _ (⟨K,L⟩) (fun H=>?_);clear j s;refine Wl.i [10,11,12] ?_;iterate 3 refine Wl.t H ?_
 refine Wl.o ?_;refine Wl.r 13 (fun s j=>?_);go_simp
 refine j.o _ _ (H) (fun a7=>?_);clear j s;refine Wl.r 14 (fun s j=>?_);go_simp
 refine j.o _ _ (a7) (fun bx=>?_);clear j s;refine Wl.d ?_;clear E H a7 aO aP K L;obtain⟨h1,ad,N,V,X,a6,hsl,an⟩:=bq.o;obtain⟨hx,aH⟩:=bv.o;obtain⟨hy,Y,-⟩:=bz.o;rw[VX]at hx hy;obtain⟨az,b9⟩:=qqe (aJ.drew.heap.size);obtain⟨k,aa⟩:=qqe (aM.heap.size);replace hy:Dv (fun b=>k<=b) U y a.bF [] []:=by rw[aa];exact hy
 rw[<-b9]at hx aH;have bA:k<=U.heap.size:=by rw[aa];exact Y.size
 have aQ:=h1.vo.ca.far;obtain⟨J,ae⟩:∃J:Nat->Nat,J=fun b=>if az<=b/\b<k then 2 else if k<=b/\b<U.heap.size then 3 else own b:=⟨_,rfl⟩
 have bB:az<=k:=by
  obtain⟨D,bT⟩:=hx.sb;replace D:az<=x:=D;omega
 have ar:∀b,b<w1.heap.size->J b=own b:=fun b A=>by rw[ae];show(if _ then _ else if _ then _ else _)=_;rw[if_neg oM,if_neg oM]
 have aA:Dvs J U x y a.dF [] a.bF [] []:=by
  refine⟨?_,?_,fun b A=>?_,h1.vo.ca.nib.keep aq id,h1.vo.ca.tur.keep aq id,(ar _ h1.vo.ca.nib.lt).trans h1.vo.ca.on,(ar _ h1.vo.ca.tur.lt).trans h1.vo.ca.ot⟩
  .have a1:Dv (fun b=>az<=b/\b<k) aM x a.dF [] []:=hx.out (fun b A h=>⟨h,by rw[aa];exact A⟩);exact(a1.new Y).out (fun b _ A=>by rw[ae];exact if_pos A)
  .exact hy.out (fun b A h=>by rw[ae];show(if _ then _ else if _ then _ else _)=_;rw[if_neg oM,if_pos ⟨h,A⟩])
  .rw [ae];show(if _ then _ else if _ then _ else _)=_;rw[if_neg oM,if_neg oM];exact aQ b (qXr aq.size A)
 have af:DidR r v own J w1 U:=⟨aq.mono fE,ar,fun b A=>by rw[ae];show(if _ then _ else if _ then _ else _)<_;split;decide;split;decide;rw[aQ b A];decide,aA.far⟩
 have Z:U.heap[r]?=some (.cells #[.int .i64 1,.int .i64 0,.int .i64 2,ptr p.ssd,ptr p.back,ptr v] 60 (0,0)):=(h1.new aq).g;have ag:J r=0:=(ar r (zd h1.g)).trans h1.o;have ah:r≠1:=fun e=>by
  have h2:=h1.vo.ca.nib.c 3 de;have D:=za h1.g 3;rw[e,h2]at D;cases D
 have ai:r≠0:=fun e=>by
  have h2:=h1.vo.ca.tur.c3;have D:=za h1.g 3;rw[e,h2]at D;cases D
 obtain⟨aB,aC⟩:=qqe (((U.setCell ⟨r,3,none⟩ (ptr x)).setCell ⟨r,4,none⟩ (ptr y)).setCell ⟨r,5,none⟩ (.pointer none));have aR:Upd (fun b=>b=r) U aB:=by rw[aC];exact((zi U r 3 _).trans (zi _ r 4 _)).trans (zi _ r 5 _)
 have aj:aB.heap[r]?=some (.cells #[.int .i64 1,.int .i64 0,.int .i64 2,ptr x,ptr y,.pointer none] 60 (0,0)):=by rw[aC];exact zh (zh (zh Z 3 (ptr x)) 4 (ptr y)) 5 (.pointer none)
 have aS:=aA.kf aR (fun b A=>by rw[A];exact⟨ag,ah,ai⟩);have ba:=qqh (EM h1.vo.ca.ok hsl (fun bC T=>an J bC x y (aS.new T)) aS.far);have am:DidR r v own J w1 aB:=af.trans (DidR.at (aR.mono (fun _ _ h=> .inl h)) aA.far) (.inl rfl);have bb:aB.rangeAt r 0 polC:=fun b u A=>(zf aj) b u (by
  have D:=(qyl.1 A).1;replace D:b<3:=D;rcases(show b=0\/b=1\/b=2 by omega)with rfl|rfl|rfl<;>exact A)
 have bD:=zg Z 3;have bE:=zg Z 4;have f5:=zg Z 5;have bc:=za Z 3;have bd:=za Z 4;have au:=za Z 5;simp at bc bd au;have bG:=underlying40;have bH:=tm;have bI:=Y11 ad N V X a6 (N.neV h1.vo) am aj ag ah ai;have bJ:=qqh aC;clear h1 ad N V X a6 hsl an hx aH hy Y b9 aa bA aQ ae bB ar aA af Z ag ah ai aR aj aS am aC bp;go_upto_region 10 with fail
 rw[<-bJ.o];clear bD bE f5 bc bd au;go_wp2_with (first
  |(refine qZa rfl _ _ rfl _ _ rfl _ _ bb bG rfl bH ?_)
  |fail)
 refine ba.o.mono ?_;rintro e aT ⟨M,bK,aU,be,rfl,aV,bf,bg,bh,-,am⟩;obtain⟨ad,N,V,X,a6,bi,af,aj,ag,ah,ai⟩:=bI.o;have a8:=am.zero aj ag;obtain⟨aD,aE⟩:=qqe (aT.setCell ⟨r,5,none⟩ (ptr M));have aW:Upd (fun b=>b=r) aT aD:=by rw[aE];exact zi aT r 5 (ptr M)
 have bj:aD.heap[r]?=some (.cells #[.int .i64 1,.int .i64 0,.int .i64 2,ptr aU.ssd,ptr aU.back,ptr M] 60 (0,0)):=by rw[aE,bf,bg];exact zh a8.1 5 (ptr M)
 have bk:RunAt be aD r M bK n aU a' 0 false:=⟨aV.box ⟨a8.1,a8.2⟩ de de ⟨ah,ai⟩ aW,bj,a8.2⟩
 have bl:w.heap.size<=M:=qXr ad.upd.size (qXr af.upd.size bh.1);have aX:=af.trans (am.toR.trans (DidR.at (v:=v) (aW.mono (fun _ _ h=> .inl h)) aV.ca.far) (.inl rfl)) (.inl rfl);have aY:=N.didR aX oM bi;have bn:=vy aY.1;have bL:=qqh (yg.fin (Rq:=fun M _=>B<=M) (v0:=v) (cd:=0) (m:=0) bk aY (w:=w) X V (ad.toR.trans aX (.inl rfl)) (qXr bo.o bl) (Ro.nil _ be aD));have au:=za a8.1 5;have f5:=zg a8.1 5;simp at au;have bM:=qqh aE;clear ad N V X a6 af aj ag ah ai a8 aW bj bk aX aY aE aV bf bg bh bl bi am ba bb;go_upto_region 14 with fail
 rw[<-bM.o];clear au f5;go_wp2_with (first
  |(refine qZc rfl _ _ _ rfl _ _ [.int .i64 0,.int .i64 0,.slice none 0 0].toArray rfl rfl bn zO (qYo (yA rfl)) ?_)
  |fail)
 exact qYq (zq rfl _ _ (ob+1) 0 [.int .i64 0,.int .i64 0,.slice none 0 0] _ rfl (qYl _ _ _ _ bn) underlying45 rfl zO) rfl bL.o
end
end Go.Proofs.YtbnpkobbnjihjaaGreatDoor
