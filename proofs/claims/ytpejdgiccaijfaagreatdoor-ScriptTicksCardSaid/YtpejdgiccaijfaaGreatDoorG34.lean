/- attach.Attach -/
import Derived.Test.YtpejdgiccaijfaaGreatDoorG26
import Derived.Test.YtpejdgiccaijfaaGreatDoorG30
import Derived.Test.YtpejdgiccaijfaaGreatDoorG31
import Derived.Test.YtpejdgiccaijfaaGreatDoorG32
import Derived.Test.YtpejdgiccaijfaaGreatDoorG33
set_option maxRecDepth 100000
set_option maxHeartbeats 4000000
namespace Go.Proofs.YtpejdgiccaijfaaGreatDoor
open Go Go.RowKit Tryz
variable{w:World}{own:Nat->Nat}{F G:List Bk}{O Q:List (Nat×Bk)}{f:Int}{wh sq ssd back m k:Nat}
section
open Go.Shelf Go.Lib
def newS(n:CaN)(wh sq:Nat)(F:List Bk)(O:List (Nat×Bk))(G:List Bk)(Q:List (Nat×Bk))(L:List Ent):CaS:=(caS0 n wh (sq+1) F O [] G Q []).ldTo n (dirE L L.length)
theorem TU(L:List Ent):dirE L L.length=L.filter (fun x=>x.d):=by unfold dirE;rw[List.take_length]
theorem TV{n:CaN}{L:List Ent}(h:Zo n L)(E:n.Ok):
  ((newS n wh sq F O G Q L).dF=F/\(newS n wh sq F O G Q L).dO=O/\(newS n wh sq F O G Q L).dP=[])/\((newS n wh sq F O G Q L).ckpt n).2=0/\(∀k v,(newS n wh sq F O G Q L).sums k=some v->v<=4294967295)/\
   CaS.Ld n (caS0 n wh (sq+1) F O [] G Q []) (dirE L L.length) (newS n wh sq F O G Q L)/\
   ((∀x∈dirE L L.length,x.b<n.bl/\x.s<n.sl/\x.m<=4294967295)/\((dirE L L.length).map (·.s)).Nodup/\((dirE L L.length).map (·.b)).Nodup/\0+(dirE L L.length).length<maxLen):=by
 have H:∀x∈dirE L L.length,x∈L:=fun x hx=>by rw[TU]at hx;exact(List.mem_filter.1 hx).1
 have j:(dirE L L.length).Sublist L:=by rw[TU];exact List.filter_sublist
 have h1:∀x∈dirE L L.length,x.b<n.bl/\x.s<n.sl/\x.m<=4294967295:=fun x hx=>h.1 x (H x hx);have h2:((dirE L L.length).map (·.s)).Nodup:=h.2.1.sublist (j.map _);have s:((dirE L L.length).map (·.b)).Nodup:=List.Nodup.sublist (j.map _) (qXb.2 (h.2.2.imp (fun h=>qXx h)));have J:=wF n.sl _ h2 (fun U M=>by obtain⟨x,hx,rfl⟩:=qzr.1 M;exact(h1 x hx).2.1);rw[qzc]at J;have A:=CaS.ldTo_ok (n:=n) (dirE L L.length) (a:=caS0 n wh (sq+1) F O [] G Q []) (ub n.bl n.sl) (fun x hx=>⟨(h1 x hx).1,(h1 x hx).2.1⟩) h2 s (fun x _=>⟨vH _ _,ua _ _⟩);obtain⟨-,P,S,D,-,-,T,-⟩:=A.oth;exact⟨⟨P,S,D⟩,CaS.NoP.ckpt ⟨D,T⟩,CaS.ldTo_sums _ (fun x hx=>(h1 x hx).2.2) (fun k v h=>by cases h),A,h1,h2,s,by have:=E.s2;unfold maxLen;omega⟩
structure Tel(n:CaN)(F:List Bk)(O:List (Nat×Bk))(Q:List Ent->Nat->Nat->Prop):Prop where
 ok:n.Ok
 fl:F.length=n.size
 su:okS (curB F O 0)=true
 ns:dsS (natsI (numsS (curB F O 0)))=n.C
 zs:∀j,j<n.lo+n.lo+n.lo->curB F O (1+2*n.pa+n.jo+j)=zB
 o5:O.length<=50000
 en:∀{S:Nat->Prop} {w w':World} {b:Nat} {e:Ending},TH S w b F O n.jo n.pa e w'->∃(v:Value) (L:List Ent) (wh sq:Nat),Q L wh sq/\e=.returned (.tuple #[.int .i64 (wh:Int),.int .i64 (sq:Int),v,.int .i64 0])/\Sl w' 155 4 v L.length (L.flatMap entC)/\From w.heap.size v/\
  Dv (fun j=>S j/\∀g,v.ownBlock=some g->g≠j) w' b F O []/\Upd S w w'
 qq:∀{L:List Ent} {wh sq:Nat},Q L wh sq->Zo n L/\wh<=1/\sq+1<1099511627776
theorem RK{n:CaN}{L:List Ent}(b:Zo n L)(h:n.Ok):
  (newS n wh sq F O G Q L).bF=G/\(newS n wh sq F O G Q L).bO=Q/\(newS n wh sq F O G Q L).bP=[]:=by
 obtain⟨-,-,-,j,-⟩:=TV (wh:=wh) (sq:=sq) (F:=F) (G:=G) (O:=O) (Q:=Q) b h;have:=j.oth;simp only[caS0]at this;exact⟨this.2.2.2.2.1,this.2.2.2.2.2.1,this.2.2.2.2.2.2.1⟩
structure TelY(bad:Prop)(n:CaN)(F:List Bk)(O:List (Nat×Bk))(Q:List Ent->Nat->Nat->Prop):Prop where
 ok:n.Ok
 fl:F.length=n.size
 su:okS (curB F O 0)=true
 ns:dsS (natsI (numsS (curB F O 0)))=n.C
 zs:∀j,j<n.lo+n.lo+n.lo->curB F O (1+2*n.pa+n.jo+j)=zB\/bad/\sealB (curB F O (1+2*n.pa+n.jo+j))≠curB F O (1+2*n.pa+n.jo+j)
 o5:O.length<=50000
 en:∀{S:Nat->Prop} {w w':World} {b:Nat} {e:Ending},TH S w b F O n.jo n.pa e w'->(bad/\∃(ao:Option Addr) (ln cap wh sq:Nat) (c:Int),c≠0/\e=.returned (.tuple #[.int .i64 (wh:Int),.int .i64 (sq:Int),.slice ao ln cap,.int .i64 c])/\Dv S w' b F O []/\Upd S w w')\/
  ∃(v:Value) (L:List Ent) (wh sq:Nat),Q L wh sq/\e=.returned (.tuple #[.int .i64 (wh:Int),.int .i64 (sq:Int),v,.int .i64 0])/\Sl w' 155 4 v L.length (L.flatMap entC)/\From w.heap.size v/\
  Dv (fun j=>S j/\∀g,v.ownBlock=some g->g≠j) w' b F O []/\Upd S w w'
 qq:∀{L:List Ent} {wh sq:Nat},Q L wh sq->Zo n L/\wh<=1/\sq+1<1099511627776
theorem EN{bad:Prop}{n:CaN}{cc:List Ent->Nat->Nat->Prop}(Y:Dvs own w ssd back F O G Q [])(J:TelY bad n F O cc)(b2:G.length=n.bl):
  Calls prog 55 #[ptr ssd,ptr back] w (fun e w'=>(bad/\∃aj,aj≠0/\zgZ own w ssd back F O G Q [] aj e w')\/∃s wh sq,cc s wh sq/\tJ own w ssd back n ((newS n wh sq F O G Q s).ckpt n).1 e w'):=by
 obtain⟨aP,ax⟩:=qqe (n.C);obtain⟨w1,b3⟩:=qqe (((w.alloc (.cells #[ptr ssd] 38)).alloc (.cells #[ptr back] 38)).alloc (.cells #[.pointer none,.pointer none,.pointer none] 103));have aQ:Upd (fun _=>False) w w1:=by rw[b3];exact(((uur _ w).alloc _).alloc _).alloc _
 have bq:w1.heap.size=w.heap.size+3:=by rw[b3];simp
 obtain⟨br,bs,bL,-,-⟩:=xH w (.cells #[ptr ssd] 38) (.cells #[ptr back] 38) (.cells #[.pointer none,.pointer none,.pointer none] 103);rw[<-b3]at br bs bL;have ay:=Y.new aQ;have bM:=zdr ay.kP (fun b ak=> .inr ak) ay.back (fun b bt h2=>by rcases h2 with h2|h2;rw[bt]at h2;exact absurd h2 de;rw[ay.far b h2]at bt;exact absurd bt de) ay.nib ay.on2 (by rw[J.fl];have:=J.ok.s1;unfold CaN.size;omega) n J.ok (fun _=>J.ns);have cd:supR n F G (curB F O 0)=(n.C,0):=by unfold supR;rw[if_pos J.su,if_pos ⟨J.fl,b2⟩]
 rw[cd]at bM;have bN:Hid (Calls prog 84 #[ptr ssd,ptr back] w1 (fun e w'=>e=.returned (.tuple #[.agg n.C.toArray,.int .i64 0])/\Dv (fun b=>own b=2\/w1.heap.size<=b) w' ssd F O []/\Upd (fun b=>own b=2\/w1.heap.size<=b) w1 w')):=bM;have aF:=Y4 Y J b2 ax;have an:=Y7 b3 aQ bq br bs bL ay;have ca:=za br 0;have cN:=za bs 0;have cO:aP.length=7:=by rw[ax];rfl
 have cP:∀v∈aP,v.oneCell'=true:=by rw[ax];exact n.C_one
 have ce:(prog.info? 44).map (·.size)=some aP.length:=by rw[ax];exact xB
 rw[<-ax]at bN;clear Y J b2 ax b3 aQ bq br bs bL ay bM cd;have aR:=qqh Zn;go_enter func55,ntmps55
 go_wp2_with fail
 rw[<-an.o.1];refine bN.o.mono ?_;rintro e b4 ⟨rfl,cf,bu⟩;have b5:=an.o.2.2.2.2.2.2.kL bu cf;have did2:=an.o.2.2.2.2.2.2.did2 bu;have cQ:Hid (w1.heap.size<=b4.heap.size):=bu.size;obtain⟨bv,ch⟩:=qqe (grow own 2 w1.heap.size b4.heap.size);rw[<-ch]at b5 did2;obtain⟨az,b6⟩:=qqe (b4.alloc (.cells aP.toArray 44));have bQ:=qqu b6;have aA:=b5.new bQ;have did3:=did2.trans (b5.ko bQ);have bx:∀i,w.heap.size<=i->own i=0:=aF.o.1.far;have aS:=did3.zero an.o.2.2.2.1 (bx _ (qXp _));have b7:=did3.zero an.o.2.2.2.2.1 (bx _ oM);have aT:=did3.zero an.o.2.2.2.2.2.1 (bx _ oM);have aG:=qqg b6;have b8:bv b4.heap.size=0:=b5.far _ (qXp _);have bz:=zg aG;have bR:=za aS.1 0;have ci:Hid (Calls prog 85 #[.agg aP.toArray,ptr ssd] az (TH (fun b=>bv b=2\/az.heap.size<=b) az ssd F O n.jo n.pa)):=by
  show Calls _ _ _ _ _;rw[aF.o.2.2.2];obtain⟨bA,b9,cR,cT,cU,cV,cW,Z,a1,a2,cX,cY,z⟩:=aF.o.2.1.ok;exact Es aA.kP (fun b ak=> .inr ak) aA.nib aA.on2 n.id n.bl n.sl n.jo n.pa n.lo n.ba bA b9 cR cT cU cV cW Z a1 a2 cX cY z aF.o.2.1.fl
 have ab:=Y8 b6 aA did3 aS b7 aT aG b8;rw[b6]at bz bR;clear cf bu b5 did2 ch bQ aA did3 aS b7 aT aG b8 b6 bx bN ca cN;go_wp2_with (first
  |(refine zk rfl _ _ _ rfl _ _ aP rfl rfl (by rw[cO];rfl) ce cP ?_)
  |(refine qYz rfl _ _ rfl _ _ rfl _ _ bz underlying44 rfl ce ?_)
  |fail)
 rw[<-ab.o.1];refine ci.out.mono ?_;intro e L bb;rcases aF.o.2.1.en bb with⟨bc,ad,cZ,ae,wh,sq,aj,aH,rfl,bd,aU⟩|⟨v,s,wh,sq,bB,rfl,hsl,bC,bd,aU⟩
 .have M:=ab.o.2.1.kL aU bd;have a6:=ab.o.2.1.did2 aU;obtain⟨a8,cj⟩:=qqe (grow bv 2 az.heap.size L.heap.size);rw[<-cj]at M a6;obtain⟨ap,af⟩:=qqe (((L.alloc (.cells #[.int .i64 (wh:Int)] 3)).alloc (.cells #[.int .i64 (sq:Int)] 3)).alloc (.cells #[.slice ad cZ ae] 146));have V:Upd (fun _=>False) L ap:=by rw[af];exact(((uur _ L).alloc _).alloc _).alloc _
  replace a6:=a6.trans (M.ko V);replace M:=M.new V;have bS:=a6.zero ab.o.2.2.2.2.2.1.1 ab.o.2.2.2.2.2.1.2;have aI:=qqh af;have aq:=zF (n:=3) bS.1 oe;have d0:(aj==0)=false:=by simpa using aH
  have be:=Y5 aH M ((aF.o.1.ko an.o.2.1).trans (ab.o.2.2.1.trans a6)) bS (show w.heap.size<=w.heap.size+1+1 by omega);clear bb bd aU M a6 cj bS bz bR aH V;rw[af]at aq;clear af;have aR:=aR.out;go_wp2_with (first
   |(refine xl rfl _ rfl aR ?_)
   |(refine qZb rfl _ _ _ rfl _ _ [Value.pointer none,Value.pointer none,Value.pointer none].toArray rfl rfl aq yA oK ?_)
   |fail)
  refine qYq (uG rfl _ _ (w.heap.size+1+1) 0 [.pointer none,.pointer none,.pointer none] _ rfl (qYl _ _ _ _ aq) underlying103 rfl yA) rfl ?_;rw[<-aI.o]
  left
  obtain⟨aH,E,did9,bf,bT⟩:=be.o;have A:=zn ap (w.heap.size+1+1) 0 [Value.pointer none,Value.pointer none,Value.pointer none];have ag:=qh E.nib E.tur bf.1 bf.2 (fun k y h=>by simp at h);refine⟨bc,aj,aH,rfl,a8,⟨E.ssd.keep A (fun b h e=>?_),E.back.keep A (fun b h e=>?_),fun b ak=>E.far b (qXr A.size ak),E.nib.keep A (fun e=>(ag _ e).2.1 rfl),E.tur.keep A (fun e=>(ag _ e).2.2 rfl),E.on,E.ot⟩,did9.mine A bT⟩
  .have:=(ag b e).1;rw[this]at h;cases h
  .have:=(ag b e).1;rw[this]at h;cases h
 obtain⟨a8,M,a6,aB⟩:=ab.o.2.1.handed bC (fun g d1=>hsl.lt d1) aU bd;have did4:=ab.o.2.2.1.trans a6;obtain⟨ad,ae,bU⟩:=hsl.rd.j6;subst bU;have bV:=Y3 M did4 a6;have bD:=Y4 bB hsl bC aB;obtain⟨ap,af⟩:=qqe (((L.alloc (.cells #[.int .i64 (wh:Int)] 3)).alloc (.cells #[.int .i64 (sq:Int)] 3)).alloc (.cells #[.slice ad s.length ae] 146));have V:Upd (fun _=>False) L ap:=by rw[af];exact(((uur _ L).alloc _).alloc _).alloc _
 have co:=zhb (hsl.keep V (fun _ _ h=>h));have d2:=qqh co;have aI:=Y2 af V;clear bb bd aU M did4 a6 bz bR bB hsl bC aB af V co;have dF:=qqf;go_wp2_with fail
 rw[<-aI.o.1];refine d2.out.mono ?_;rintro e ar ⟨dG,rfl,aV,aW,T⟩;obtain⟨au,av,bU⟩:=aV.rd.j6;subst bU;obtain⟨U,aC⟩:=qqe ((dirE s s.length).length);rw[<-aC]at aV⊢;have d3:ar.cell? ⟨L.heap.size+1+1,0,none⟩=some (.slice ad s.length ae):=by
  have g:ap.heap[L.heap.size+1+1]?=some (.cells #[.slice ad s.length ae] 146 (0,0)):=by rw[aI.o.1];exact zc _ _ oe
  rw[za ((T.block _ (zd g) (fun e=>by have:=bD.o.2.1.lt (g:=L.heap.size+1+1) (by simpa[Value.ownBlock]using e);omega)).trans g)];rfl
 have d4:ar.frozen? ⟨L.heap.size+1+1,0,none⟩=false:=by
  have g:ap.heap[L.heap.size+1+1]?=some (.cells #[.slice ad s.length ae] 146 (0,0)):=by rw[aI.o.1];exact zc _ _ oe
  exact zf ((T.block _ (zd g) (fun e=>by have:=bD.o.2.1.lt (g:=L.heap.size+1+1) (by simpa[Value.ownBlock]using e);omega)).trans g) 0
 have cp:=Y4 aV aW T aC;clear aV aW T aC;go_wp2_with fail
 have cq:L.heap.size+3<=ar.heap.size:=by
  have h1:=cp.o.2.2.1.size;have h2:ap.heap.size=L.heap.size+3:=by rw[aI.o.1];simp
  omega
 obtain⟨m,bW⟩:∃m,m+1+1+1=ar.heap.size:=⟨ar.heap.size-3,oM⟩
 obtain⟨D,bg⟩:=qqe (L.heap.size);obtain⟨q,bh⟩:=qqe (w.heap.size);obtain⟨aJ,bi⟩:=qqe (b4.heap.size);rw[<-bW,<-bg,<-bh,<-bi];obtain⟨bj,bn⟩:=qqe (ar.setCell ⟨D+1+1,0,none⟩ (.slice au U av));rw[<-bn];obtain⟨aa,bE⟩:=qqe ((((bj.alloc (.cells #[.pointer none] 98)).alloc (.cells #[.pointer none,.pointer none,.pointer none] 103)).alloc (.cells #[.slice none 0 0] 104)).alloc (.cells (WL aJ q D m) 93))
 change Calls _ _ _ ((((bj.alloc (.cells #[.pointer none] 98)).alloc (.cells #[.pointer none,.pointer none,.pointer none] 103)).alloc (.cells #[.slice none 0 0] 104)).alloc (.cells (WL aJ q D m) 93)) _
 rw[<-bE];have bX:Hid (Calls prog 53 #[.slice (some ⟨m+1+1+1+1+1+1,0,none⟩) 4 4] aa (se (fun c W=>bad/\c=12/\∃o,Dvs o W ssd back F O G Q []/\Did own o w W/\(W.heap[q+1+1]?=some (.cells #[.pointer none,.pointer none,.pointer none] 103 (0,0))/\o (q+1+1)=0)) (fun W=>∃own' c p X bY cr,CaAt own' W c n p ((newS n wh sq F O G Q s).ckpt n).1/\(p.ssd=ssd/\p.back=back)/\Did own own' w W/\(W.heap[q+1+1]?=some (.cells #[.pointer none,.pointer none,.pointer none] 103 (0,0))/\own' (q+1+1)=0)/\Bx own' W m (ptr c) [ptr X,ptr bY,ptr cr]/\Lg3 own' W n ssd X bY cr))):=by
  show Calls _ _ _ _ _;obtain⟨d5,J,b2,ax⟩:=aF.o;obtain⟨-,aQ,bq,-,-,-,ay⟩:=an.o;obtain⟨-,aA,did3,aS,b7,aT,aG,b8⟩:=ab.o;obtain⟨M,did4,a6⟩:=bV.o;obtain⟨af,V⟩:=aI.o;obtain⟨aV,aW,T,aC⟩:=cp.o;obtain⟨bB,hsl,bC,aB⟩:=bD.o;rw[<-bh]at aS b7 aT bq;rw[<-bi,ax]at aG;rw[<-bi]at b8;have dH:=M.nib.lt;have dI:=M.tur.lt;have dJ:=aA.nib.lt;have dK:=aA.tur.lt;have d6:=a6.upd.size;have dL:=zd aG;have bY:=zd aT.1;have dM:w1.heap.size<=aJ:=by rw[bi];exact cQ.out
  have d7:∀b,(Value.slice ad s.length ae).ownBlock=some b->a8 b=0/\b≠0/\b≠1:=fun b ak=>by
   have h:=aB b ak;exact⟨h.2,oM,oM⟩
  have d8:=(M.new V).ky T d7;have d9:a8 (D+1+1)=0:=M.far _ oM;have aD:Upd (fun b=>b=D+1+1) ar bj:=by rw[bn];exact zi _ _ _ _
  have ct:=d8.ky aD (fun b e=>by subst e;exact⟨d9,oM,oM⟩);obtain⟨cu,cv,cx,cy,-,aK⟩:=xK bj (.cells #[.pointer none] 98) (.cells #[.pointer none,.pointer none,.pointer none] 103) (.cells #[.slice none 0 0] 104) (.cells (WL aJ q D m) 93);have da:bj.heap.size=m+1+1+1:=by rw[bW,bn];simp
  rw[<-bE,da]at cu cv cx cy;rw[<-bE]at aK;have db:=ct.new aK;have bG:∀{H:Nat} {o:Obj},az.heap[H]?=some o/\bv H=0->aa.heap[H]?=some o/\a8 H=0:=fun{H o} h=>by
   have aX:=a6.zero h.1 h.2;have cz:=zd h.1;refine⟨?_,aX.2⟩;rw[aK.block _ (by have:=zd aX.1;have:=T.size;have:=V.size;have:=aD.size;omega) id,aD.block _ (by have:=zd aX.1;have:=T.size;have:=V.size;omega) oM,T.block _ (by have:=zd aX.1;have:=V.size;omega) (fun e=>by have:=(aB H e).1;omega),V.block _ (zd aX.1) id];exact aX.1
  have dN:w.heap.size<=az.heap.size:=qXr aQ.size did3.upd.size;have bH:Did own a8 w ap:=((d5.ko aQ).trans did4).trans (M.ko V);have dc:Did own a8 w ar:=⟨bH.upd.new T (fun i dd e=>by have:=(aB i e).1;omega),bH.old,bH.new,fun b ak=>bH.far b (by have:=T.size;omega)⟩
  have df:Did own a8 w aa:=(dc.mine aD oM).trans (ct.ko aK);have dg:=bG aS;have kb:=bG b7;have dh:=bG aT;have di:=bG ⟨aG,b8⟩;have aL:∀i,D<=i->a8 i=0:=fun i dd=>M.far i oM;rw[<-aC]at aW;have dO:az.heap.size<=D:=by rw[bg];exact d6
  have dP:D<=m:=by have:=cq;omega
  obtain⟨cA,bA,b9,dj,-⟩:=xH L (.cells #[.int .i64 (wh:Int)] 3) (.cells #[.int .i64 (sq:Int)] 3) (.cells #[.slice ad s.length ae] 146);rw[<-af,<-bg]at cA bA b9;rw[<-af]at dj;have hgm:∀i,(Value.slice ad s.length ae).ownBlock=some i->az.heap.size<=i/\i<D/\a8 i=0:=fun i e=>⟨(aB i e).1,by rw[bg];exact hsl.lt e,(aB i e).2⟩
  have cB:∀{i:Nat} {o:Obj},ap.heap[i]?=some o->D<=i->i≠D+1+1->aa.heap[i]?=some o:=fun{i o} h h1 h2=>by
   have cz:=zd h;rw[aK.block _ (by have:=T.size;have:=aD.size;omega) id,aD.block _ (by have:=T.size;omega) h2,T.block _ cz (fun e=>by have:=(hgm i e).2.1;omega)];exact h
  have dk:=cB cA (qXp _) oM;have dm:=cB bA oM oM;have dn:aa.heap[D+1+1]?=some (.cells #[.slice au U av] 146 (0,0)):=by
   have cC:ar.heap[D+1+1]?=some (.cells #[.slice ad s.length ae] 146 (0,0)):=(T.block _ (zd b9) (fun e=>by have:=(hgm _ e).2.1;omega)).trans b9;rw[aK.block _ (by have:=aD.size;have:=zd cC;omega) id,bn];exact xo cC
  have bZ:Sl aa 155 4 (.slice au U av) U ((dirE s s.length).flatMap entC):=
   (aV.keep aD (fun i e h=>by rw[aW]at e;have:=(hgm i e).2.1;omega)).keep aK (fun _ _ h=>h)
  obtain⟨aY,hFx⟩:∃aY:Nat->Option Obj,aY=fun H=>if H=m+1+1+1+1+1+1 then some (.cells (WL aJ q D m) 93)else if H=aJ then some (.cells n.C.toArray 44)else if H=q then some (.cells #[ptr ssd] 38)else if H=q+1 then some (.cells #[ptr back] 38)
   else if H=q+1+1 then some (.cells #[.pointer none,.pointer none,.pointer none] 103)else if H=D then some (.cells #[.int .i64 (wh:Int)] 3)else if H=D+1 then some (.cells #[.int .i64 (sq:Int)] 3)else if H=D+1+1 then some (.cells #[.slice au U av] 146)
   else if(Value.slice ad s.length ae).ownBlock=some H then aa.heap[H]? else none:=⟨_,rfl⟩
  have a7:Kps a8 aa aY:=by
   intro H o j;rw[hFx]at j;simp only[]at j;split at j
   .rename_i h;subst h;cases j;exact⟨cy,aL _ oM⟩
   split at j
   .rename_i h;subst h;cases j;exact di
   split at j
   .rename_i h;subst h;cases j;exact dg
   split at j
   .rename_i h;subst h;cases j;exact kb
   split at j
   .rename_i h;subst h;cases j;exact dh
   split at j
   .rename_i h;subst h;cases j;exact⟨dk,aL _ oM⟩
   split at j
   .rename_i h;subst h;cases j;exact⟨dm,aL _ oM⟩
   split at j
   .rename_i h;subst h;cases j;exact⟨dn,aL _ oM⟩
   split at j
   .rename_i h;exact⟨j,(hgm _ h).2.2⟩
   .cases j
  have cD:∀i,(Value.slice au U av).ownBlock=some i->aY i=aa.heap[i]?:=fun i e=>by
   rw[aW]at e;have h:=hgm i e;rw[hFx];simp only[];rw[if_neg oM,if_neg oM,if_neg oM,if_neg oM,if_neg oM,if_neg oM,if_neg oM,if_neg oM,if_pos e]
  obtain⟨cE,dp,dq⟩:=J.qq bB;have dr:(newS n wh sq F O G Q s).bF=G/\(newS n wh sq F O G Q s).bO=Q/\(newS n wh sq F O G Q s).bP=[]:=RK cE J.ok;obtain⟨ds,dt,du,dQ,aZ⟩:=TV (n:=n) (wh:=wh) (sq:=sq) (F:=F) (G:=G) (O:=O) (Q:=Q) cE J.ok;have dw:∀o W,Dvs o W ssd back F O G Q []->Did own o w W->Kps o W aY->Calls prog 89 #[.agg n.C.toArray,ptr ssd,ptr back,.int .i64 (wh:Int),.int .i64 ((sq+1:Nat):Int),.slice au U av] W (YH o W ssd back n (newS n wh sq F O G Q s)):=fun o W Y _ ah=>
   zfj Y.ssd Y.back Y.far Y.nib Y.tur Y.on Y.ot J.ok J.fl b2 wh (sq+1) dp dq au U av (newS n wh sq F O G Q s) (fun dR dx c p dy h=>by
    have cF:=ah.did dy;have cG:Sl dx 155 4 (.slice au U av) U ((dirE s s.length).flatMap entC):=bZ.same (fun i e=>by
     obtain⟨x,hx⟩:∃x,aa.heap[i]?=some x:=⟨_,qxe (bZ.lt e)⟩
     rw[hx];exact(cF i x ((cD i e).trans hx)).1)
    rw[aC]at cG⊢;exact RG h cG (fun i e=>by
     obtain⟨x,hx⟩:∃x,aa.heap[i]?=some x:=⟨_,qxe (bZ.lt (by rw[aC];exact e))⟩
     exact(cF i x ((cD i (by rw[aC];exact e)).trans hx)).2) (ub n.bl n.sl) aZ.1 aZ.2.1 aZ.2.2.1 (fun x _=>⟨vH _ _,ua _ _⟩) ⟨aZ.2.2.2,aZ.2.2.2,aZ.2.2.2⟩)
  have dz:=Et (own:=own) (own':=a8) (w:=w) (W:=aa) (g:=m+1+1+1+1+1+1) (m:=m) (m0:=D) (s8:=aJ) (q:=q) (Fx:=aY) (ao:=au) (ln:=U) (cap:=av) oM J.fl J.zs ds dr dt du J.o5 dw oM db df a7 ⟨⟨cu,aL _ oM⟩,⟨cv,aL _ oM⟩,⟨cx,aL _ oM⟩⟩
   (by rw[hFx];simp) (by rw[hFx];simp only[];rw[if_neg oM,if_pos trivial]) (by rw[hFx];simp only[];rw[if_neg oM,if_neg oM,if_pos trivial]) (by rw[hFx];simp only[];rw[if_neg oM,if_neg oM,if_neg oM,if_pos trivial])
   (by rw[hFx];simp only[];rw[if_neg oM,if_neg oM,if_neg oM,if_neg oM,if_neg oM,if_pos trivial]) (by rw[hFx];simp only[];rw[if_neg oM,if_neg oM,if_neg oM,if_neg oM,if_neg oM,if_neg oM,if_pos trivial])
   (by rw[hFx];simp only[];rw[if_neg oM,if_neg oM,if_neg oM,if_neg oM,if_neg oM,if_neg oM,if_neg oM,if_pos trivial])
   oh
   oh
   oh
  refine dz.mono fun e W ⟨c,bb,h1,h2⟩=>⟨c,bb,fun c0=>?_,fun c0=>?_⟩
  .obtain ⟨aM,bp,c3,X,Z,ai,aN,aO,aE,ah,j,b0⟩:=h1 c0;exact⟨aM,bp,c3,X,Z,ai,aN,aO,aE,ah _ _ oP,j,b0⟩
  .obtain ⟨bc,dA,aM,Y,aE,ah⟩:=h2 c0;exact⟨bc,dA,aM,Y,aE,ah _ _ oP⟩
 have HM:Hid (q+1+1<D/\D<=m):=by
  have h1:=an.o.2.2.1;have h2:=zd (ab.o.2.2.2.2.2.1.1);have bt:=bV.o.2.2.upd.size;exact⟨oM,oM⟩
 clear bE bW bg bi ab bV ci bn cq d3 d4;refine bX.o.mono ?_;rintro e am ⟨dB,rfl,h1,h2⟩;by_cases c4:dB=0
 rotate_left
 .obtain ⟨bc,rfl,aM,cH,did6,c5⟩:=h2 c4;have aq:=zF (n:=3) c5.1 oe;have be:=Y5 (show(12:Int)≠0 by decide) cH did6 c5 (show w.heap.size<=q+1+1 by omega);clear h1 h2 cH did6 c5 bX c4;obtain⟨aj,c6⟩:∃aj:Int,aj=12:=⟨_,rfl⟩
  rw[<-c6]at be⊢;have d0:(aj==0)=false:=by rw[c6];rfl
  clear c6;rw[bh]at aq be;have aR:=aR.out;go_wp2_with (first
   |(refine xl rfl _ rfl aR ?_)
   |(refine qZb rfl _ _ _ rfl _ _ [Value.pointer none,Value.pointer none,Value.pointer none].toArray rfl rfl aq yA oK ?_)
   |fail)
  refine qYq (uG rfl _ _ (w.heap.size+1+1) 0 [.pointer none,.pointer none,.pointer none] _ rfl (qYl _ _ _ _ aq) underlying103 rfl yA) rfl ?_
  left
  obtain⟨aH,E,did9,bf,bT⟩:=be.o;have A:=zn am (w.heap.size+1+1) 0 [Value.pointer none,Value.pointer none,Value.pointer none];have ag:=qh E.nib E.tur bf.1 bf.2 (fun k y h=>by simp at h);refine⟨bc,aj,aH,rfl,aM,⟨E.ssd.keep A (fun b h e=>?_),E.back.keep A (fun b h e=>?_),fun b ak=>E.far b (qXr A.size ak),E.nib.keep A (fun e=>(ag _ e).2.1 rfl),E.tur.keep A (fun e=>(ag _ e).2.2 rfl),E.on,E.ot⟩,did9.mine A bT⟩
  .have:=(ag b e).1;rw[this]at h;cases h
  .have:=(ag b e).1;rw[this]at h;cases h
 subst c4;obtain⟨aM,bp,c3,X,Z,ai,aN,aO,aE,ah,j,b0⟩:=h1 rfl;have c7:=Y6 aN aO aE ah j b0;have cI:=za j.1.1 0;have cJ:=zg j.2.1.1;have cK:=za j.2.2.1 0;have cL:=bh;have dC:Hid (w.heap.size<=q+1+1):=by show _<=_;omega
 clear h1 h2 aN aO aE ah j b0 bX;go_wp2_with fail
 rw[<-cL];clear bh cL;have aq:=zF (n:=3) c7.o.2.2.2.1.1 oe;refine qZc (S:=fun W=>W.cell? ⟨m+1+1+1,0,none⟩=some (ptr bp)/\W.rangeAt (m+1+1+1+1) 0 [ptr X,ptr Z,ptr ai]/\W.cell? ⟨m+1+1+1+1+1,0,none⟩=some (.slice none 0 0)) kR (⟨by rw[qYi];exact cI,by rw[qYk];exact cJ,by rw[qYi];exact cK⟩) (fun bI=>?_);refine Wl.i [0,2] ?_;iterate 2 refine Wl.t bI ?_
 refine Wl.o ?_;refine Wl.l 1 (fun w h=>h.2.1) underlying103 yA bI ?_;refine Wl.r 3 (fun K a7=>?_);go_simp
 refine a7.o _ _ (bI) (fun bJ=>?_);clear a7 K;have b1:Upd (fun _=>False) am am.drew:=(uur _ am).drew;have cM:am.drew.there (q+1+1) 0 3:=zF (n:=3) (b1.j4 c7.o.2.2.2.1.1) oe;have A:=zn am.drew (q+1+1) 0 [ptr X,ptr Z,ptr ai];have bK:(am.drew.setCells (q+1+1) 0 [ptr X,ptr Z,ptr ai]).cell? ⟨m+1+1+1,0,none⟩=some (ptr bp)/\(am.drew.setCells (q+1+1) 0 [ptr X,ptr Z,ptr ai]).rangeAt (m+1+1+1+1) 0 [ptr X,ptr Z,ptr ai]/\(am.drew.setCells (q+1+1) 0 [ptr X,ptr Z,ptr ai]).cell? ⟨m+1+1+1+1+1,0,none⟩=some (.slice none 0 0):=
  ⟨A.j3 bJ.1 jB,A.range bJ.2.1 jB,A.j3 bJ.2.2 jB⟩
 refine Wl.r 4 (fun K a7=>?_);rw[if_pos oE];refine qZd _ _ _ rfl _ _ [ptr X,ptr Z,ptr ai].toArray rfl rfl cM yA oK ?_;simp only[Act.put,qXe];refine a7.o _ _ (bK) (fun _=>?_);clear a7 K bI bJ;refine Wl.r 5 (fun K a7=>?_);go_simp
 refine a7.o _ _ (bK) (fun _=>?_);clear a7 K;refine Wl.r 6 (fun K a7=>?_);go_simp
 refine a7.o _ _ (bK) (fun _=>?_);clear a7 K;refine Wl.d ?_;have dD:=Y2 b1 A;clear bK b1 A cI cJ cK aq;go_wp2
 refine qYq (uG rfl _ _ (q+1+1) 0 [ptr X,ptr Z,ptr ai] _ rfl (qYl _ _ _ _ cM) underlying103 rfl yA) rfl ?_;obtain⟨aN,aO,aE,ah,j,b0⟩:=c7.o;obtain⟨b1,A⟩:=dD.o;have c8:=aN.ko b1;have c9:=aN.new b1;have cb:=c8.zero ah.1 ah.2;have aw:=b0.did c8;have ag:=qh c9.nib c9.tur cb.1 cb.2 (fun k y h=>by simp at h);have U:∀{l:Nat} {v:Array Value} {t:TypeId},am.drew.heap[l]?=some (.cells v t (0,0))->(∃x,v[0]?=some (.pointer (some x)))->l≠q+1+1:=by
  rintro l v t h ⟨x,hx⟩ e;rw[e,cb.1]at h;cases h;simp at hx
 have dE:w.heap.size<=q+1+1:=dC.out;exact .inr ⟨s,wh,sq,bD.o.1,bp,c3,aM,X,Z,ai,rfl,c9.ky A ag,aO.1,aO.2,(aE.trans c8).mine A dE,aw.1.1.keep A (U aw.1.1.str ⟨_,rfl⟩),aw.1.2.1.keep A (U aw.1.2.1.str ⟨_,rfl⟩),aw.1.2.2.keep A (U aw.1.2.2.str ⟨_,rfl⟩),aw.2.1,aw.2.2.1,aw.2.2.2⟩
end
theorem Va{n:CaN}{j:List Ent->Nat->Nat->Prop}(A:Dvs own w ssd back F O G Q [])(b:Tel n F O j)(D:G.length=n.bl):
  Calls prog 55 #[ptr ssd,ptr back] w (fun e w'=>∃s wh sq,j s wh sq/\tJ own w ssd back n ((newS n wh sq F O G Q s).ckpt n).1 e w'):=
 (EN (bad:=False) A ⟨b.ok,b.fl,b.su,b.ns,fun E H=> .inl (b.zs E H),b.o5,fun J=> .inr (b.en J),b.qq⟩ D).mono fun _ _ h=>h.resolve_left fun h=>h.1
theorem Emp.tel{n:CaN}(h:Emp n F O wh sq):Tel n F O (fun s A D=>s=[]/\A=wh/\D=sq):=by
 refine⟨h.ok,h.fl,h.su,h.ns,h.zs,h.o5,fun J=>?_,fun L=>?_⟩
 .obtain ⟨v,s,A,D,c,rfl,hsl,M,P,S,b⟩:=J;rw[h.nw,h.js]at b;rcases b with⟨-,-,b⟩|⟨-,R,T,-,r,E,b⟩
  .cases b
  .have U:R=[]:=List.Perm.eq_nil T;subst U;have V:r.d=[]:=by rw[E];rfl
   have X:r.g=sq:=by rw[E];rfl
   rw[V]at b;have H:∀j,Lists (apRs (apM (([]:List Ent).map Ent.toI)) (([]:List (List Nat)).map natsI)) j->j=[]:=fun j b=>Rv b;rcases b with⟨-,-,b|⟨j,h1,h2⟩⟩|⟨Y,Z,a6,b,-⟩
   .exact absurd qzy b
   .rw [H j h1]at h2;exact absurd qzy h2
   .have a7:=H s b;subst a7;exact⟨v,[],wh,sq,⟨rfl,rfl,rfl⟩,by rw[Y,Z,a6,X],hsl,M,P,S⟩
 .obtain ⟨rfl,rfl,rfl⟩:=L;exact⟨⟨fun x hx=>(by cases hx),qzy,List.Pairwise.nil⟩,h.wh1,h.sq1⟩
theorem qL{n:CaN}(b:Dvs own w ssd back F O G Q [])(h:Emp n F O wh sq)(j:G.length=n.bl):
  Calls prog 55 #[ptr ssd,ptr back] w (tJ own w ssd back n ((caS0 n wh (sq+1) F O [] G Q []).ckpt n).1):=
 (Va b h.tel j).mono fun e w' ⟨D,E,H,⟨h1,h2,s⟩,A⟩=>by
  subst h1;subst h2;subst s;exact A
abbrev polC:List Value:=[.int .i64 1,.int .i64 0,.int .i64 2]
theorem tM:(prog.info? 46).map (·.size)=some 3:=kR
def vo0(c li lc lf:Nat):List Value:=[ptr c,ptr li,ptr lc,ptr lf,.pointer none,.int .i64 1,.int .i64 0,.int .i64 2,.int .i64 0,.slice none 0 0,.bool false]
theorem Xb(c b h j:Nat)(L:Array Value)(s:L=(vo0 c b h j).toArray)(w:World):
  (Instr.build 112 #[(0,ptr c),(1,.agg #[ptr b,ptr h,ptr j]),(3,.agg #[.int .i64 1,.int .i64 0,.int .i64 2]),(4,.int .i64 0)]).run prog w=.ok (.agg L) w:=by rw[s];kernel_rfl
theorem qk{A:Array Oper}{rest:List Oper}{op:Oper}{x:Act}{Q:Exit->Act->World->Prop}(D:op.guard=none)(p q r s:Operand)(E:op.op=.build 112 #[(0,p),(1,q),(3,r),(4,s)])
  (c b h j:Nat) (H:x.eval p=ptr c) (J:x.eval q=.agg #[ptr b,ptr h,ptr j]) (M:x.eval r=.agg #[.int .i64 1,.int .i64 0,.int .i64 2]) (P:x.eval s=.int .i64 0) (L:Array Value) (S:L=(vo0 c b h j).toArray)
  (T:wpList prog A Q rest (x.put op.dst (.agg L)) w):wpList prog A Q (op::rest) x w:=by
 refine qZa D fun V U=>?_;unfold Oper.wp;simp only[execOp,E,qzl,qzi,qzk,H,J,M,P,qYg,Xb c b h j L S w,qYf];exact U _ _ T
theorem RL{v c:Nat}{n:CaN}{p:CaP}{a:CaS}(b:CaAt own w c n p a)(j:w.cell? ⟨v,0,none⟩=some (ptr c)):
  Calls prog 59 #[ptr v] w fun e w'=>e=.returned (.int .i64 (n.bl:Int))/\Below w.heap.size w w':=by
 have D:=xE (n.id:Int) (n.bl:Int) (n.sl:Int) (n.jo:Int) (n.pa:Int) (n.lo:Int) (n.ba:Int);have s:=qqh (wJ b);clear b;go_enter func59,ntmps59
 go_wp2_with fail
 refine s.o.mono ?_;rintro e E ⟨rfl,h⟩;have A:=qqh h;clear h j;go_wp2
 go_ret
 exact⟨rfl,A.o⟩
structure L3At(own:Nat->Nat)(w:World)(li lc lf:Nat)(n:CaN)(d:Nat):Prop where
 i:LogI w li d (1+2*n.pa+n.jo) n.lo 150
 c:LogC w lc d (1+2*n.pa+n.jo+n.lo) n.lo 154
 f:LogF w lf d (1+2*n.pa+n.jo+n.lo+n.lo) n.lo 158
 o:own li=0/\own lc=0/\own lf=0
theorem L3At.keep{w':World}{j s A d:Nat}{n:CaN}{S:Nat->Prop}(b:L3At own w j s A n d)(hu:Upd S w w')(D:∀h,S h->h<w.heap.size->own h≠0\/h≠j/\h≠s/\h≠A):L3At own w' j s A n d:=
 ⟨b.i.keep hu (fun e=>(D _ e b.i.lt).elim (fun e=>e b.o.1) (fun e=>e.1 rfl)),b.c.keep hu (fun e=>(D _ e b.c.lt).elim (fun e=>e b.o.2.1) (fun e=>e.2.1 rfl)),b.f.keep hu (fun e=>(D _ e b.f.lt).elim (fun e=>e b.o.2.2) (fun e=>e.2.2 rfl)),b.o⟩
theorem L3At.new{w':World}{h j s d:Nat}{n:CaN}(b:L3At own w h j s n d)(hu:Upd (fun _=>False) w w'):L3At own w' h j s n d:=b.keep hu (fun _ b=>b.elim)
def zbR(own:Nat->Nat)(w:World)(ssd back:Nat)(n:CaN)(a:CaS)(e:Ending)(w':World):Prop:=
 ∃v q p own',e=.returned (.tuple #[ptr v,.int .i64 0])/\VolAt own' w' v q n p a 0 false/\p.ssd=ssd/\p.back=back/\(w.heap.size<=v/\w.heap.size<=q.lb/\w.heap.size<=q.mb)/\L3At own' w' q.li q.lc q.lf n ssd/\Did own own' w w'
theorem EO{n:CaN}{a:CaS}(aP:n.Ok)(hsl:2<=n.sl)(aQ:∀w1,Upd (fun _=>False) w w1->Calls prog 55 #[ptr ssd,ptr back] w1 (tJ own w1 ssd back n a))(ax:∀s,w.heap.size<=s->own s=0):
  Calls prog 29 #[ptr ssd,ptr back,.agg polC.toArray] w (zbR own w ssd back n a):=by
 obtain⟨m,ay⟩:=qqe (w.heap.size);obtain⟨w1,ag⟩:=qqe (w.alloc (.cells polC.toArray 46));have az:=qqu ag;have aR:w1.heap[m]?=some (.cells polC.toArray 46 (0,0)):=by rw[ag,ay];exact zc w _ rfl
 have aS:=qqh (aQ w1 az);have aT:Did own own w w1:=(Did.refl ax).mine (az.mono fE:Upd (fun s=>s=m) w w1) oM;have H:=Y7 ag ay aR (ax m oM) aT aP hsl;clear aQ ag az aR ay aT aP hsl ax;go_enter func29,ntmps29
 go_upto_region 1 with fail
 rw[<-H.o.1,<-H.o.2.1];go_wp2_with fail
 refine aS.o.mono ?_;rintro e ah ⟨c,p,aA,A,D,E,rfl,ai,J,L,aU,aV,aW,aX,aY,aZ,b0⟩;obtain⟨aj,aB⟩:=qqe (ah.heap.size);obtain⟨a6,ak⟩:=qqe (ah.alloc (.cells #[ptr A,ptr D,ptr E] 103));have am:=qqu ak;have a7:a6.heap[aj]?=some (.cells [ptr A,ptr D,ptr E].toArray 103 (0,0)):=by rw[ak,aB];exact zc ah _ rfl
 have M:=ai.new am;have T:=(show L3At aA ah A D E n ssd from⟨aV,aW,aX,aY,aZ,b0⟩).new am;have Y:=aU.trans (ai.ko am);have a8:=Y.zero H.o.2.2.1 H.o.2.2.2.1;have aC:=zg a8.1;have aD:=zg a7;have bO:=tK (n.id:Int) (n.bl:Int) (n.sl:Int) (n.jo:Int) (n.pa:Int) (n.lo:Int) (n.ba:Int);have b3:=qqh (wJ (M.new ((uur _ a6).drew)));have bz:=Y8 M J L (H.o.2.2.2.2.1.trans Y) a7 (ai.far aj oM) a8 T;have b4:=Y2 ak aB;have b5:=underlying46;have b6:=tM;clear ai J L aU aV aW aX aY aZ b0 T ak am a7 M Y a8 aS aB;go_upto_region 4 with fail
 rw[<-b4.o.1,<-b4.o.2];refine qZc (S:=fun W=>W.rangeAt m 0 polC/\W.rangeAt aj 0 [ptr A,ptr D,ptr E]) kR (⟨by rw[qYk];exact aC,by rw[qYk];exact aD⟩) (fun aE=>?_);refine Wl.l 0 (fun w h=>h.1) b5 b6 aE ?_;refine Wl.i [1] (Wl.t aE (Wl.o ?_));refine Wl.r 2 (fun K U=>?_);go_simp
 refine b3.o.mono ?_;rintro e bA ⟨rfl,b7⟩;have an:=uuo (S:=fun _=>False) b7;have aF:=qqh (WT 1 0 2 (n.sl:Int) bA);have b8:chkP 1 0 2 (n.sl:Int)=0:=if_pos ⟨oM,oM,by have:=H.o.2.2.2.2.2.2;omega,oM,oM⟩;rw[b8]at aF;have aG:=an.range (show a6.drew.rangeAt m 0 polC by rw[qYk];exact aC) id;have aH:=an.range (show a6.drew.rangeAt aj 0 _ by rw[qYk];exact aD) id;have bB:=qqh ((uur (fun _=>False) a6).drew.trans an);clear b7 an b8;refine U.o _ _ (⟨aG,aH⟩) (fun b9=>?_);clear U K;refine Wl.i [3] (Wl.t b9 (Wl.o ?_));refine Wl.r 4 (fun K U=>?_);go_simp
 refine aF.o.mono ?_;rintro e aI ⟨rfl,bb⟩;have b:=uuo (S:=fun _=>False) bb;have aJ:=b.range aG id;have aK:=b.range aH id;have bC:=qqh (bB.o.trans b);clear bb b;refine U.o _ _ (⟨aJ,aK⟩) (fun bc=>?_);clear U K;refine Wl.r 5 (fun K U=>?_);go_simp
 refine U.o _ _ (bc) (fun bD=>?_);clear U K;refine Wl.d ?_;obtain⟨ao,aL⟩:=qqe (vo0 c A D E);have aa:=qqh aL;have bP:ao.length=11:=by rw[aL];rfl
 clear aE b9 bc bD aG aH aC aD aL b3 aF;go_upto_region 8 with(first
  |(refine qYz rfl _ _ rfl _ _ rfl _ _ aK underlying103 rfl yA ?_)
  |(refine qYz rfl _ _ rfl _ _ rfl _ _ aJ b5 rfl b6 ?_)
  |(refine qk rfl _ _ _ _ rfl c A D E oE oE oE oE ao.toArray (by rw[aa.o]) ?_)
  |fail)
 obtain⟨M,J,L,Y,a7,ol,a8,T⟩:=bz.o;have b:=bC.o;obtain⟨v,ap⟩:=qqe (aI.heap.size);obtain⟨bd,aq⟩:=qqe (aI.alloc (.cells ao.toArray 112));have ar:=qqu aq;have V:bd.heap[v]?=some (.cells ao.toArray 112 (0,0)):=by rw[aq,ap];exact zc aI _ rfl
 have j:=M.new (b.trans ar);have ab:=Y.trans (M.ko (b.trans ar));have Z:aA v=0:=(M.new b).far v oM;have be:=qqh (RL (v:=v) j (by rw[za V,aa.o];rfl));have bE:=Y9 j J L ab V Z (show w.heap.size<=v from by rw[ap];exact qXr Y.upd.size b.size) (T.new (b.trans ar)) (show A<v/\D<v/\E<v from by have h1:=(T.new b).i.lt;have h2:=(T.new b).c.lt;have bQ:=(T.new b).f.lt;omega);have bf:=Y2 aq ap;clear M J L Y a7 ol a8 T b ar V j ab Z aq ap aJ aK;rw[<-bf.o.1,<-bf.o.2];go_wp2_with fail
 refine be.o.mono ?_;rintro e bF ⟨rfl,bg⟩;have bh:=qqb bg;have bi:=qqh (zdd n.bl H.o.2.2.2.2.2.1.b1 H.o.2.2.2.2.2.1.b2 bF);have ad:=qqh bh;clear bg bh be;go_wp2_with fail
 refine bi.o.mono ?_;rintro e aM ⟨X,au,rfl,bj,bn,bp,bq⟩;obtain⟨j,J,L,ab,V,Z,aN,br,bG⟩:=bE.o;have ae:=ad.o.trans (uuo bq);have av:=ae.j4 V;have bs:=za av 4;have bR:=zf av 4;rw[aa.o]at bs;simp[vo0]at bs;have bH:=zd V;have bI:=ad.o.size;have af:=zi aM v 4 (ptr X);have aO:bd.cell? ⟨v,0,none⟩=some (ptr c):=by rw[za V,aa.o];rfl
 have bt:v≠0:=fun e=>by
  have h1:=j.nib.c 0 de;have h2:=aO;rw[e,h1]at h2;cases h2
 have bu:v≠1:=fun e=>by
  have h1:=j.tur.c0;have h2:=aO;rw[e,h1]at h2;cases h2
 have bv:=qqh (show zbR own w ssd back n a (.returned (.tuple #[ptr v,.int .i64 0])) (aM.setCell ⟨v,4,none⟩ (ptr X))from
  ⟨v,⟨c,A,D,E,X,au⟩,p,aA,rfl,⟨(j.new ae).ky af (fun s aw=>by rw[aw];exact⟨Z,bt,bu⟩),by rw[zh av 4 (ptr X),aa.o];rfl,bj.keep af (fun e=>by replace e:X=v:=e;omega) (fun e=>by replace e:au=v:=e;omega),Z,
   (j.new ad.o).far X bn,(j.new ad.o).far au bp⟩,J,L,⟨aN,by show _<=X;omega,by show _<=au;omega⟩,(br.new ae).keep af (fun s aw _=> .inr (by replace aw:s=v:=aw;show s≠A/\s≠D/\s≠E;omega)),(ab.trans (j.ko ae)).mine af aN⟩)
 clear bj bn bp bq j J L ab V Z aN br bG ae av bH bI af bt bu aO bi ad;go_wp2
 obtain⟨bJ,bx⟩:=qqe (aM.setCell ⟨v,4,none⟩ (ptr X));rw[<-bx]at bv⊢;clear bx;go_loopg[57] 0 (fun gk i wr=>i=.int .i64 0/\wr=bJ)
 case atStart=>exact⟨rfl,rfl⟩
 case round=>
  obtain⟨rfl,bK⟩:=hrel;subst bK;go_wp2
  go_ret2
  obtain⟨bS,bL,bM,own',bN,h⟩:=bv.o;cases bN;exact⟨v,bL,bM,own',rfl,h⟩
def CaS.goN(n:CaN)(f:Int)(a:CaS):Nat->CaS
 |0=>a
 |k+1=>((CaS.goN n f a k).gone n (f+k)).1
def zdF(n:CaN)(f:Int)(m:Nat)(I:Nat->CaS->Prop):Prop:=∀k b,k<m->I k b->1<=b.next->(∃M,b.Tie n none/\b.Fit M/\M+n.pa+2<=50000)/\(b.gone n (f+(k:Int))).2=0/\I (k+1) (b.gone n (f+(k:Int))).1
section
variable{own0 own own':Nat->Nat}{w0 W W':World}{v:Nat}{q:VoP}{n:CaN}{p:CaP}{a a':CaS}{md:Int}{cl:Bool}
def zdG(own0:Nat->Nat)(w0:World)(v:Nat)(q:VoP)(n:CaN)(p:CaP)(md:Int)(a:CaS)(f:Int)(I:Nat->CaS->Prop)(sb eb:Nat)(sv:Array Value)(k:Nat)(W:World):Prop:=
 ∃own,VoFr own0 w0 v q n p md own W (CaS.goN n f a k)/\Bo own W sb sv 52/\Bo own W eb sv 52/\I k (CaS.goN n f a k)
theorem zdH{sb h:Nat}{j:Array Value}{I:Nat->CaS->Prop}(s:zdG own0 w0 v q n p md a f I sb h j k W)(A:k<m)(D:zdF n f m I):
  Calls prog 108 #[ptr q.c,.int .i64 (f+(k:Int))] W fun e W'=>e=.returned (.int .i64 0)/\zdG own0 w0 v q n p md a f I sb h j (k+1) W':=by
 obtain⟨own,b,E,H,J⟩:=s;obtain⟨⟨V,L,M,P⟩,S,T⟩:=D k _ A J b.vo.ca.nx1;refine(Ub b.vo.ca M P L (f+(k:Int))).mono ?_;rintro e W' ⟨rfl,own',U,d⟩;rw[S];exact⟨rfl,own',b.did U d,E.did d,H.did d,T⟩
theorem Uw{I:Nat->CaS->Prop}(h:VolAt own W v q n p a md false)(M:inS n.bl f m)(A:zdF n f m I)(D:I 0 a):
  Calls prog 65 #[ptr v,sI f m] W fun e W'=>xw own W v q n p (CaS.goN n f a m) md false (.int .i64 0) e W'/\I m (CaS.goN n f a m):=by
 have ap:=h.ca.ok.b2;have E:0<=f/\f+m<=4096:=by obtain⟨aA,aB,aC,aD⟩:=M;omega
 obtain⟨sb,T⟩:=qqe (W.heap.size);obtain⟨w1,H⟩:=qqe (W.alloc (.cells #[.int .i64 f,.int .i64 (m:Int)] 52));have aa:=qqu H;have U:Bo own w1 sb #[.int .i64 f,.int .i64 (m:Int)] 52:=⟨by rw[H,T];exact zc W _ rfl,h.ca.far _ oM⟩
 have b:VoFr own W v q n p md own w1 a:=(VoFr.start h).new aa;have ab:=zg U.1;have ad:=qqh (yp b.vo);have ae:=qqh (TK b.vo M);have af:=underlying52;have ag:=yz;have aE:=qqf;have aq:=Y5 b U E A D;have ah:=Y2 H T;clear h M ap E T H aa U b A D;go_enter func65,ntmps65
 go_upto_region 1 with fail
 rw[<-ah.o.1,<-ah.o.2];go_wp2_with fail
 refine ad.o.mono ?_;rintro e w' ⟨rfl,ai⟩;rw[ai];clear ai;go_wp2_with (first
  |(refine qYz rfl _ _ rfl _ _ rfl _ _ ab af rfl ag ?_)
  |fail)
 refine ae.o.mono ?_;rintro e j ⟨rfl,J⟩;obtain⟨b,V,E,A,D⟩:=aq.o;have X:Upd (fun _=>False) w1 j.drew:=(uuo J).trans (uur _ j).drew;have Y:=b.new X;have aj:=V.keep X id;have Z:Upd (fun _=>False) j.drew (j.drew.alloc (.cells #[.int .i64 f,.int .i64 (m:Int)] 52)):=(uur _ j.drew).alloc _;have ar:j.rangeAt sb 0 [.int .i64 f,.int .i64 (m:Int)]:=zg (V.keep (uuo (S:=fun _=>False) J) id).1;have ak:=za (b.new (uuo J)).vo.g 0;simp[Zb]at ak;have au:=qqh (YV (g:=v) (N:=m) 108 #[ptr q.c] #[] (fun k a6=>zdG own W v q n p md a f I j.drew.heap.size sb #[.int .i64 f,.int .i64 (m:Int)] k a6) E (w:=j.drew) (enters_of func108 kR rfl)
  (fun k a6 ⟨own',_,av,_⟩=>av.cell 0)
  (fun k aw a6 ax=>zdH ax aw A) ⟨own,Y.new Z,⟨zc _ _ rfl,Y.vo.ca.far _ (qXp _)⟩,aj.keep Z id,D⟩)
 clear J b V E A D X Y aj Z ab ad ae;go_upto_region 7 with fail
 refine qZc (S:=fun W=>W.cell? ⟨v,0,none⟩=some (ptr q.c)/\W.rangeAt sb 0 [.int .i64 f,.int .i64 (m:Int)]) kR (⟨by rw[qYi];exact ak,by rw[qYk];exact ar⟩) (fun L=>?_);refine Wl.i [0] (Wl.t L (Wl.o ?_));refine Wl.l 1 (fun w h=>h.2) af ag L ?_;refine Wl.i [2,3,4,5] ?_;iterate 4 refine Wl.t L ?_
 refine Wl.o ?_;refine Wl.r 6 (fun K s=>?_);go_simp
 refine s.o _ _ (L) (fun aF=>?_);clear s K;refine Wl.r 7 (fun K s=>?_);go_simp
 refine au.o.mono ?_;rintro e aG ⟨rfl,aH,a7,-,am,an⟩;have ao:=za a7.vo.g 0;simp[Zb]at ao;have ay:=zg am.1;have a8:=Y2 a7 an;clear a7 am an;refine s.o _ _ (⟨ao,ay⟩) (fun az=>?_);clear s K;refine Wl.r 8 (fun K s=>?_);go_simp
 refine s.o _ _ (az) (fun aI=>?_);clear s K;refine Wl.d ?_;go_wp2
 go_ret
 exact⟨⟨rfl,_,a8.o.1.vo,a8.o.1.d⟩,a8.o.2⟩
theorem VolAt.turn{x:Value}{md':Int}{cl':Bool}(h:VolAt own W v q n p a md cl)(hx:(Zb q md cl).toArray.setIfInBounds k x=(Zb q md' cl').toArray):VolAt own (W.setCell ⟨v,k,none⟩ x) v q n p a md' cl':=by
 have b:=zi W v k x;have j:W.cell? ⟨v,0,none⟩=some (ptr q.c):=za h.g 0;have D:v≠0:=fun e=>by
  have h1:=h.ca.nib.c 0 de;have h2:=j;rw[e,h1]at h2;cases h2
 have E:v≠1:=fun e=>by
  have h1:=h.ca.tur.c0;have h2:=j;rw[e,h1]at h2;cases h2
 refine⟨h.ca.ky b (fun J H=>by rw[H];exact⟨h.o1,D,E⟩),by rw[zh h.g k x,hx],h.lk.keep b (fun e=>?_) (fun e=>?_),h.o1,h.o2,h.o3⟩
 .replace e:q.lb=v:=e;have s:=h.lk.1;rw[e,h.g]at s;cases s
 .replace e:q.mb=v:=e;obtain⟨L,⟨M,S,A,-⟩,-⟩:=h.lk.2;rw[e,h.g]at A;cases A
theorem zbo{fr:Int}(b:VolAt own W v q n p a md false)(s:fr=0\/fr=1\/fr=2):
  Calls prog 71 #[ptr v,.int .i64 fr] W (VoR own W v q n p a fr false (.int .i64 0)):=by
 have A:=qqh (yp b);have c:=za b.g 8;have f:=zf b.g 8;simp[Zb]at c;have h:=Y2 (VolAt.turn (k:=8) (x:=.int .i64 fr) (md':=fr) (cl':=false) b rfl) b.ca.far;clear b;go_enter func71,ntmps71
 rcases s with rfl|rfl|rfl
 all_goals
  go_wp2_with fail
  refine A.o.mono ?_;rintro e w' ⟨rfl,j⟩;rw[j];clear j;go_wp2
  go_ret
  exact⟨rfl,own,h.o.1,DidR.at ((zi _ _ _ _).mono (fun _ _ b=> .inl b)) h.o.2⟩
theorem Vb(b:VolAt own W v q n p a md cl):Calls prog 116 #[ptr v] W fun e W'=>e=.returned (.pointer none)/\W'=W:=by
 have c:=za b.g 9;simp[Zb]at c;clear b;go_enter func116,ntmps116
 go_wp2
 go_step3
 go_wp2
 go_step3
 go_wp2
 go_loopg[3,11] 0 (fun gk x i wr=>x=.pointer none/\i=.int .i64 0/\wr=W)
 case atStart=>exact⟨rfl,rfl,rfl⟩
 case round=>
  obtain⟨rfl,rfl,h⟩:=hrel;subst h;go_wp2
  try rw[qxr]
  go_ret
  exact⟨rfl,rfl⟩
theorem zbp{N:Nat}(h:VolAt own W v q n p a md false)(M:a.Fit N)(T:N+n.bl*(n.pa+2)<=50000)(U:a.Tie n none)(V:(a.tick n 1 0 2).2.2=0):
  Calls prog 69 #[ptr v] W (xw own W v q n p (a.tick n 1 0 2).1 md false (.int .i64 0)):=by
 have X:=qqh (yp h);have Y:=za h.g 0;simp[Zb]at Y;have ad:W.rangeAt v 5 polC:=fun b u A=>(qXy (5+b))▸(zg h.g) (5+b) u (by
  have D:=(qym.1 A).1;replace D:b<3:=D;rcases(show b=0\/b=1\/b=2 by omega)with rfl|rfl|rfl<;>exact A)
 have s:=(uur (fun _=>False) W).drew;have E:=zbj (h.new s).ca M T U 1 0 2;rw[V]at E;generalize (a.tick n 1 0 2).2.1=R at E;have E:=qqh E;have ae:=Y2 h s;have af:=underlying46;have ag:=tM;clear h M T U V s;go_enter func69,ntmps69
 go_wp2_with fail
 refine X.o.mono ?_;rintro e w' ⟨rfl,H⟩;rw[H];clear H X;go_upto_region 4 with fail
 refine qZc (S:=fun W=>W.cell? ⟨v,0,none⟩=some (ptr q.c)/\W.rangeAt v 5 polC) kR (⟨by rw[qYi];exact Y,by rw[qYk];exact ad⟩) (fun Z=>?_);refine Wl.i [0,1,2,3,4,5,6] ?_;iterate 7 refine Wl.t Z ?_
 refine Wl.o ?_;refine Wl.l 7 (fun w h=>h.2) af ag Z ?_;refine Wl.r 8 (fun K j=>?_);go_simp
 refine E.o.mono ?_;rintro e ah ⟨rfl,am,D,a6⟩;obtain⟨h,s⟩:=ae.o;have L:=(h.ca.ko s).trans a6;have J:=h.did D L;have a7:=za J.g 0;simp[Zb]at a7;have ai:ah.rangeAt v 5 polC:=fun b u A=>(qXy (5+b))▸(zg J.g) (5+b) u (by have a8:=(qym.1 A).1;replace a8:b<3:=a8;rcases(show b=0\/b=1\/b=2 by omega)with rfl|rfl|rfl<;>exact A);have aj:=qqh (Vb J);have aa:=Y2 J L;clear h D a6 J L s;refine j.o _ _ (⟨a7,ai⟩) (fun ab=>?_);clear j K;refine Wl.i [9,10,11] ?_;iterate 3 refine Wl.t ab ?_
 refine Wl.o ?_;refine Wl.r 12 (fun K j=>?_);go_simp
 refine j.o _ _ (ab) (fun ak=>?_);clear j K;refine Wl.r 13 (fun K j=>?_);go_simp
 refine j.o _ _ (ak) (fun an=>?_);clear j K;refine Wl.d ?_;go_wp2_with fail
 refine aj.o.mono ?_;rintro e w' ⟨rfl,H⟩;rw[H];clear H;go_wp2
 go_ret
 exact⟨rfl,_,aa.o.1,aa.o.2⟩
theorem RM{ae:Nat->Bk}{N:Nat}(h:VolAt own W v q n p a md false)(J:Inv15 n a ae N)(L:n.bl<=12)(D:4<=n.jo)(j:n.jo<=12)(E:N+n.bl*(n.pa+2)<=40000):
  Calls prog 72 #[ptr v] W (VoR own W v q n p ((((a.emptied n).j9 n).1).ckpt n).1 md true (.int .i64 0)):=by
 have V:=qqh (yp h);have X:=qqh (Vb h);have Y:=za h.g 0;simp[Zb]at Y;have Z:=qqh (RH h.ca J L j oM);obtain⟨b,-⟩:=J.emptied h.ca.nx1 L;have af:=Y5 h b D j E;clear h J L D j E b;go_enter func72,ntmps72
 go_wp2_with fail
 refine V.o.mono ?_;rintro e w' ⟨rfl,s⟩;rw[s];clear s V;go_wp2_with fail
 refine X.o.mono ?_;rintro e w' ⟨rfl,s⟩;rw[s];clear s X;go_wp2_with fail
 refine Z.o.mono ?_;rintro e ai ⟨⟨rfl,aj,h2,M⟩,a6⟩;obtain⟨h,b,D,j,E⟩:=af.o;have H:=h.did h2 M;have c2:=za H.g 0;simp[Zb]at c2;have S:=b.fit.j9 a6;have T:=qqh (YM H.ca S.sm (by have:=S.dO;omega));have a7:(((a.emptied n).j9 n).1.ckpt n).2=0:=CaS.NoP.ckpt ((CaS.same_committed n oM (a.emptied n)).noP b.nop);rw[a7]at T;have a8:=Y2 H M;clear h b D j E a6 h2 M H S a7 Y Z;go_wp2_with fail
 refine T.o.mono ?_;rintro e ag ⟨rfl,aa,ab,U⟩;have A:=a8.o.1.did ab U;have ah:=za A.g 10;have ak:=zf A.g 10;simp[Zb]at ah;have ad:=Y2 (A.turn (k:=10) (x:=.bool true) (md':=md) (cl':=true) rfl) (show DidR v v own aa W (ag.setCell ⟨v,10,none⟩ (.bool true))from(a8.o.2.trans U).toR.trans (DidR.at ((zi _ _ _ _).mono (fun _ _ h=> .inl h)) A.ca.far) (.inl rfl));clear ab U A c2 T;go_wp2
 go_ret
 exact⟨rfl,aa,ad.o.1,ad.o.2⟩
end
structure View where
 md:Int
 cl:Bool
 v:Nat->Bk
def qO(v:Nat->Bk)(f:Int)(xs:List Bk):Nat->Nat->Bk
 |0=>v
 |k+1=>updV (qO v f xs k) (f+k).toNat (xs.getD k zB)
instance(bl:Nat)(f m:Int):Decidable (inS bl f m):=inferInstanceAs (Decidable (_/\_/\_/\_))
def doCd(n:CaN)(S:View)(d fr m:Int):Int:=
 if d<0\/13<=d then 1 else if(d=1\/d=2)/\¬(1<=m/\m<=64)then 1 else if S.cl then 16
 else if d<=3 then(if inS n.bl fr m then 0 else 10)else if d=9 then(if 0<=fr/\fr<=2 then 0 else 1)else 0
def doS(n:CaN)(S:View)(d fr m fi:Int):View:=
 if doCd n S d fr m≠0 then S else if d=1\/d=2 then{S with v:=qO S.v fr (fillL fr fi m.toNat) m.toNat}else if d=3 then{S with v:=qO S.v fr [] m.toNat}
 else if d=9 then{S with md:=fr}else if d=10 then{S with cl:=true}else S
def doL(n:CaN)(S:View)(d fr m:Int):List Bk:=if doCd n S d fr m=0/\d=0 then(List.range m.toNat).map fun(k:Nat)=>S.v (fr+(k:Int)).toNat else[]
section
variable{n:CaN}{a:CaS}{v:Nat->Bk}{N:Nat}
def CaN.B(n:CaN):Nat:=3*n.pa+n.jo+6
theorem Ux(b:inS n.bl f m)(h:k<m):0<=f+(k:Int)/\f+(k:Int)<(n.bl:Int):=by
 obtain⟨j,s,A,D⟩:=b;omega
theorem EP(A:4<=n.jo){md:Int}{xs:List Bk}(D:0<=md/\md<3)(E:inS n.bl f xs.length)(L:N+xs.length*n.B<=50000):
  zbl n md f xs (fun k j=>Inv15 n j (qO v f xs k) (N+k*n.B)):=fun k j s b H h1=>by
 have M:(k+1)*n.B<=xs.length*n.B:=qXv _ s;have S:(k+1)*n.B=k*n.B+n.B:=Nat.succ_mul _ _;have T:n.B=3*n.pa+n.jo+6:=rfl;obtain⟨h2,J⟩:=(b.kG H h1 A (f+(k:Int)) (xs.getD k zB) md).1 ⟨Ux E s,D⟩;refine⟨⟨_,b.tie,b.fit,oM⟩,h2,?_⟩;show Inv15 n _ (qO v f xs (k+1)) (N+(k+1)*n.B);rw[show N+(k+1)*n.B=N+k*n.B+3*n.pa+n.jo+6 by omega];exact J
theorem EQ(A:inS n.bl f m)(E:N+m*n.B<=50000):zdF n f m (fun k j=>Inv15 n j (qO v f [] k) (N+k*n.B)):=fun k j s b h1=>by
 have H:(k+1)*n.B<=m*n.B:=qXv _ s;have J:(k+1)*n.B=k*n.B+n.B:=Nat.succ_mul _ _;have L:n.B=3*n.pa+n.jo+6:=rfl;obtain⟨h2,D⟩:=(b.gone h1 (f+(k:Int))).1 (Ux A s);refine⟨⟨_,b.tie,b.fit,oM⟩,h2,?_⟩;show Inv15 n _ (qO v f [] (k+1)) (N+(k+1)*n.B);exact D.mono oM
end
section
variable{own own':Nat->Nat}{w w' W W':World}{r v:Nat}{q:VoP}{n:CaN}{p:CaP}{a a':CaS}{md md':Int}{cl cl':Bool}
theorem TW(W:World):Rd W 1 (.slice none 0 0) ([]:List Bool).length (zbM []):=(Sl.nil W 0 1).rd
theorem ER{d fr m fi:Int}{B:Nat}(aZ:B<=w.heap.size)(h:RunAt own w r v q n p a md cl)(hsl:2<=n.sl)(an:∀H aG x y,Dvs H aG x y a.dF [] a.bF [] []->Calls prog 55 #[ptr x,ptr y] aG (tJ H aG x y n a')):
  Calls prog 43 #[ptr r,uJ d fr m fi (.slice none 0 0)] w (zZ (fun M _=>B<=M) own w r v n 0 0 [] a' 0 false):=by
 have bs:=qqh aZ;clear aZ;obtain⟨ob,ao⟩:=qqe (w.heap.size);obtain⟨w1,ap⟩:=qqe ((w.alloc (.cells #[.int .i64 d,.int .i64 fr,.int .i64 m,.int .i64 fi,.slice none 0 0] 30)).alloc (.cells #[.int .i64 0,.int .i64 0,.slice none 0 0] 34));have aH:Upd (fun _=>False) w w1:=by rw[ap];exact((uur _ w).alloc _).alloc _
 have b0:w1.heap[ob]?=some (.cells #[.int .i64 d,.int .i64 fr,.int .i64 m,.int .i64 fi,.slice none 0 0] 30 (0,0)):=by rw[ap,ao];exact(qxk _ _ _ oe).trans (zc w _ rfl)
 have T:Bo own w1 (ob+1) #[.int .i64 0,.int .i64 0,.slice none 0 0] 34:=⟨by rw[ap,ao];exact zc _ _ oe,h.vo.ca.far _ oM⟩
 have h1:=h.new aH;have J:w1.cell? ⟨ob,4,none⟩=some (.slice none 0 0):=za b0 4;have U:=za h1.g 3;have L:=za h1.g 4;simp at U L;have Y:0<ob+1/\1<ob+1:=by have:=h.vo.ca.nib.lt;have:=h.vo.ca.tur.lt;omega
 have Z:w.heap.size<=ob+1:=oM;have a8:r<ob:=by rw[ao];exact zd h.g
 have b1:=fun W (V:Upd (fun _=>False) w1 W)=>zbG (h1.new V).vo.ca.ssd;have b2:=fun W (V:Upd (fun _=>False) w1 W)=>zbG (h1.new V).vo.ca.back;have ad:=(uur (fun _=>False) w1).drew;have bt:(0:Int)<=(a.dO.length:Int):=oM;have bu:(0:Int)<=(a.bO.length:Int):=oM;have av:IntKind.i64.wrap (a.bO.length:Int)=(a.bO.length:Int):=qxu _ (by have:=h1.vo.ca.back.good.ol;omega);have bU:min (0:Int) (a.dO.length:Int)=0:=Int.min_eq_left bt;have bV:min (0:Int) (a.bO.length:Int)=0:=Int.min_eq_left bu;have b3:=fun W (V:Upd (fun _=>False) w1 W)=>SF (h1.new V).vo.ca.ssd (TW W) (qXz _);have b4:=fun W (V:Upd (fun _=>False) w1 W)=>SF (h1.new V).vo.ca.back (TW W) (qXz _);have b5:=Y2 b3 b4;have bv:w1.rangeAt r 0 polC:=fun b u s=>(zg h1.g) b u (by
  have A:=(qym.1 s).1;replace A:b<3:=A;rcases(show b=0\/b=1\/b=2 by omega)with rfl|rfl|rfl<;>exact s)
 generalize (a.dO.length:Int)=bW at*;generalize (a.bO.length:Int)=bX at*;have b6:=Y2 b1 b2;have bx:=Y8 h1 (h.vo.ca.ko aH) T Y Z a8 hsl an;have b7:=Y2 ap ao;clear b3 b4 h h1 T aH b0 ap ao Y Z a8 hsl an b1 b2;go_enter func43,ntmps43
 go_upto_region 1 with fail
 rw[<-b7.o.1,<-b7.o.2];refine qZc (S:=fun W=>W.cell? ⟨ob,4,none⟩=some (.slice none 0 0)/\W.cell? ⟨r,3,none⟩=some (ptr p.ssd)) kR (⟨by rw[qYi];assumption,by rw[qYi];assumption⟩) (fun D=>?_);refine Wl.i [0,1,2,3,4,5,6] ?_;iterate 7 refine Wl.t D ?_
 refine Wl.o ?_;refine Wl.r 7 (fun K j=>?_);go_simp
 refine(b6.o.1 _ ad).mono ?_;rintro e bz ⟨rfl,av⟩;rw[av];refine j.o _ _ (D) (fun E=>?_);clear j K;refine Wl.i [8] (Wl.t E (Wl.o ?_));refine Wl.r 9 (fun K j=>?_);go_simp
 refine j.o _ _ (E) (fun aa=>?_);clear j K;refine Wl.d ?_;have J:=ad.j3 J id;have U:=ad.j3 U id;have L:=ad.j3 L id;generalize bA:w1.drew=aI at*;clear D bA;have b8:=ad.trans (uur (fun _=>False) aI).drew;go_upto_region 2 with fail
 refine qZc (S:=fun W=>W.cell? ⟨ob,4,none⟩=some (.slice none 0 0)/\W.cell? ⟨r,4,none⟩=some (ptr p.back)) kR (⟨by rw[qYi];assumption,by rw[qYi];assumption⟩) (fun D=>?_);refine Wl.i [0,1,2,3,4,5,6,7] ?_;iterate 8 refine Wl.t D ?_
 refine Wl.o ?_;refine Wl.r 8 (fun K j=>?_);go_simp
 refine(b6.o.2 _ b8).mono ?_;rintro e bz ⟨rfl,av⟩;rw[av];refine j.o _ _ (D) (fun E=>?_);clear j K;refine Wl.i [9,10] ?_;iterate 2 refine Wl.t E ?_
 refine Wl.o ?_;refine Wl.r 11 (fun K j=>?_);go_simp
 refine j.o _ _ (E) (fun aa=>?_);clear j K;refine Wl.d ?_;have aw:=(uur (fun _=>False) aI).drew;have J:=aw.j3 J id;have U:=aw.j3 U id;have L:=aw.j3 L id;generalize bB:aI.drew=aJ at*;clear D bB aw ad;have aK:=(uur (fun _=>False) aJ).drew;have aL:=b8.trans aK;go_upto_region 3 with fail
 refine qZc (S:=fun W=>W.cell? ⟨ob,4,none⟩=some (.slice none 0 0)/\W.cell? ⟨r,3,none⟩=some (ptr p.ssd)) kR (⟨by rw[qYi];assumption,by rw[qYi];assumption⟩) (fun D=>?_);refine Wl.i [0,1,2,3,4,5,6,7] ?_;iterate 8 refine Wl.t D ?_
 refine Wl.o ?_;refine Wl.r 8 (fun K j=>?_);go_simp
 refine(b5.o.1 _ aL).mono ?_;rintro e aM ⟨x,rfl,hx,aN⟩;have ax:=aK.trans (uuo (S:=fun _=>False) aN);have J:=ax.j3 J id;have U:=ax.j3 U id;have L:=ax.j3 L id;have bC:=aL.trans (uuo (S:=fun _=>False) aN);have bD:=Y2 hx (show w1.heap.size<=aJ.drew.heap.size from aL.size);clear aN ax hx;refine j.o _ _ (⟨J,U⟩) (fun E=>?_);clear j K;refine Wl.i [9,10,11] ?_;iterate 3 refine Wl.t E ?_
 refine Wl.o ?_;refine Wl.r 12 (fun K j=>?_);go_simp
 refine j.o _ _ (E) (fun aa=>?_);clear j K;refine Wl.r 13 (fun K j=>?_);go_simp
 refine j.o _ _ (aa) (fun bE=>?_);clear j K;refine Wl.d ?_;clear D E aa;clear aK U;go_upto_region 6 with fail
 have aO:=(uur (fun _=>False) aM).drew;have aP:=bC.trans aO;refine qZc (S:=fun W=>W.cell? ⟨ob,4,none⟩=some (.slice none 0 0)/\W.cell? ⟨r,4,none⟩=some (ptr p.back)) kR (⟨by rw[qYi];assumption,by rw[qYi];assumption⟩) (fun D=>?_);refine Wl.i [0,1,2,3,4,5,6,7,8] ?_;iterate 9 refine Wl.t D ?_
 refine Wl.o ?_;refine Wl.r 9 (fun K j=>?_);go_simp
 refine(b5.o.2 _ aP).mono ?_;rintro e X ⟨y,rfl,hy,ay⟩;have a6:=aO.trans (uuo (S:=fun _=>False) ay);have J:=a6.j3 J id;have L:=a6.j3 L id;have bG:=Y3 hy a6 ay;have aq:=aP.trans (uuo (S:=fun _=>False) ay);clear ay a6 hy;refine j.o _ _ (⟨J,L⟩) (fun E=>?_);clear j K;refine Wl.i [10,11,12] ?_;iterate 3 refine Wl.t E ?_
 refine Wl.o ?_;refine Wl.r 13 (fun K j=>?_);go_simp
 refine j.o _ _ (E) (fun aa=>?_);clear j K;refine Wl.r 14 (fun K j=>?_);go_simp
 refine j.o _ _ (aa) (fun bE=>?_);clear j K;refine Wl.d ?_;clear D E aa aO aP J L;obtain⟨h1,ae,T,Y,Z,a8,hsl,an⟩:=bx.o;obtain⟨hx,b9⟩:=bD.o;obtain⟨hy,a6,-⟩:=bG.o;rw[Ug]at hx hy;obtain⟨az,ba⟩:=qqe (aJ.drew.heap.size);obtain⟨k,aA⟩:=qqe (aM.heap.size);replace hy:Dv (fun b=>k<=b) X y a.bF [] []:=by rw[aA];exact hy
 rw[<-ba]at hx b9;have bH:k<=X.heap.size:=by rw[aA];exact a6.size
 have aQ:=h1.vo.ca.far;obtain⟨H,af⟩:∃H:Nat->Nat,H=fun b=>if az<=b/\b<k then 2 else if k<=b/\b<X.heap.size then 3 else own b:=⟨_,rfl⟩
 have bI:az<=k:=by
  obtain⟨A,bY⟩:=hx.sb;replace A:az<=x:=A;omega
 have ar:∀b,b<w1.heap.size->H b=own b:=fun b s=>by rw[af];show(if _ then _ else if _ then _ else _)=_;rw[if_neg oM,if_neg oM]
 have aB:Dvs H X x y a.dF [] a.bF [] []:=by
  refine⟨?_,?_,fun b s=>?_,h1.vo.ca.nib.keep aq id,h1.vo.ca.tur.keep aq id,(ar _ h1.vo.ca.nib.lt).trans h1.vo.ca.on,(ar _ h1.vo.ca.tur.lt).trans h1.vo.ca.ot⟩
  .have a1:Dv (fun b=>az<=b/\b<k) aM x a.dF [] []:=hx.out (fun b s h=>⟨h,by rw[aA];exact s⟩);exact(a1.new a6).out (fun b _ s=>by rw[af];exact if_pos s)
  .exact hy.out (fun b s h=>by rw[af];show(if _ then _ else if _ then _ else _)=_;rw[if_neg oM,if_pos ⟨h,s⟩])
  .rw [af];show(if _ then _ else if _ then _ else _)=_;rw[if_neg oM,if_neg oM];exact aQ b (qXr aq.size s)
 have ag:DidR r v own H w1 X:=⟨aq.mono fE,ar,fun b s=>by rw[af];show(if _ then _ else if _ then _ else _)<_;split;decide;split;decide;rw[aQ b s];decide,aB.far⟩
 have a7:X.heap[r]?=some (.cells #[.int .i64 1,.int .i64 0,.int .i64 2,ptr p.ssd,ptr p.back,ptr v] 68 (0,0)):=(h1.new aq).g;have ah:H r=0:=(ar r (zd h1.g)).trans h1.o;have ai:r≠0:=fun e=>by
  have h2:=h1.vo.ca.nib.c 3 de;have A:=za h1.g 3;rw[e,h2]at A;cases A
 have aj:r≠1:=fun e=>by
  have h2:=h1.vo.ca.tur.c3;have A:=za h1.g 3;rw[e,h2]at A;cases A
 obtain⟨aC,aD⟩:=qqe (((X.setCell ⟨r,3,none⟩ (ptr x)).setCell ⟨r,4,none⟩ (ptr y)).setCell ⟨r,5,none⟩ (.pointer none));have aR:Upd (fun b=>b=r) X aC:=by rw[aD];exact((zi X r 3 _).trans (zi _ r 4 _)).trans (zi _ r 5 _)
 have ak:aC.heap[r]?=some (.cells #[.int .i64 1,.int .i64 0,.int .i64 2,ptr x,ptr y,.pointer none] 68 (0,0)):=by rw[aD];exact zh (zh (zh a7 3 (ptr x)) 4 (ptr y)) 5 (.pointer none)
 have aS:=aB.ky aR (fun b s=>by rw[s];exact⟨ah,ai,aj⟩);have bb:=qqh (EO h1.vo.ca.ok hsl (fun bJ V=>an H bJ x y (aS.new V)) aS.far);have am:DidR r v own H w1 aC:=ag.trans (DidR.at (aR.mono (fun _ _ h=> .inl h)) aB.far) (.inl rfl);have bc:aC.rangeAt r 0 polC:=fun b u s=>(zg ak) b u (by
  have A:=(qym.1 s).1;replace A:b<3:=A;rcases(show b=0\/b=1\/b=2 by omega)with rfl|rfl|rfl<;>exact s)
 have bK:=zf a7 3;have bL:=zf a7 4;have f5:=zf a7 5;have bd:=za a7 3;have be:=za a7 4;have au:=za a7 5;simp at bd be au;have bM:=underlying46;have bN:=tM;have bP:=Y11 ae T Y Z a8 (T.neV h1.vo) am ak ah ai aj;have bQ:=qqh aD;clear h1 ae T Y Z a8 hsl an hx b9 hy a6 ba aA bH aQ af bI ar aB ag a7 ah ai aj aR ak aS am aD bv;go_upto_region 10 with fail
 rw[<-bQ.o];clear bK bL f5 bd be au;go_wp2_with (first
  |(refine qYz rfl _ _ rfl _ _ rfl _ _ bc bM rfl bN ?_)
  |fail)
 refine bb.o.mono ?_;rintro e aT ⟨M,bR,aU,bf,rfl,aV,bg,bh,bi,-,am⟩;obtain⟨ae,T,Y,Z,a8,bj,ag,ak,ah,ai,aj⟩:=bP.o;have ab:=am.zero ak ah;obtain⟨aE,aF⟩:=qqe (aT.setCell ⟨r,5,none⟩ (ptr M));have aW:Upd (fun b=>b=r) aT aE:=by rw[aF];exact zi aT r 5 (ptr M)
 have bn:aE.heap[r]?=some (.cells #[.int .i64 1,.int .i64 0,.int .i64 2,ptr aU.ssd,ptr aU.back,ptr M] 68 (0,0)):=by rw[aF,bg,bh];exact zh ab.1 5 (ptr M)
 have bp:RunAt bf aE r M bR n aU a' 0 false:=⟨aV.box ⟨ab.1,ab.2⟩ de de ⟨ai,aj⟩ aW,bn,ab.2⟩
 have bq:w.heap.size<=M:=qXr ae.upd.size (qXr ag.upd.size bi.1);have aX:=ag.trans (am.toR.trans (DidR.at (v:=v) (aW.mono (fun _ _ h=> .inl h)) aV.ca.far) (.inl rfl)) (.inl rfl);have aY:=T.didR aX oM bj;have br:=vK aY.1;have bS:=qqh (zZ.fin (Rq:=fun M _=>B<=M) (v0:=v) (cd:=0) (m:=0) bp aY (w:=w) Z Y (ae.toR.trans aX (.inl rfl)) (qXr bs.o bq) (Ro.nil _ bf aE));have au:=za ab.1 5;have f5:=zf ab.1 5;simp at au;have bT:=qqh aF;clear ae T Y Z a8 ag ak ah ai aj ab aW bn bp aX aY aF aV bg bh bi bq bj am bb bc;go_upto_region 14 with fail
 rw[<-bT.o];clear au f5;go_wp2_with (first
  |(refine qZb rfl _ _ _ rfl _ _ [.int .i64 0,.int .i64 0,.slice none 0 0].toArray rfl rfl br zX (qYo (xZ rfl)) ?_)
  |fail)
 exact qYq (zq rfl _ _ (ob+1) 0 [.int .i64 0,.int .i64 0,.slice none 0 0] _ rfl (qYl _ _ _ _ br) underlying34 rfl zX) rfl bS.o
end
end Go.Proofs.YtpejdgiccaijfaaGreatDoor
