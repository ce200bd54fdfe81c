/- A cache: Check -/
import Derived.Test.YtbnpkobbnjihjaaGreatDoorG14
import Derived.Test.YtbnpkobbnjihjaaGreatDoorG16
import Derived.Test.YtbnpkobbnjihjaaGreatDoorG13
import Derived.Test.YtbnpkobbnjihjaaGreatDoorG15
set_option maxRecDepth 100000
set_option maxHeartbeats 4000000
namespace Go.Proofs.YtbnpkobbnjihjaaGreatDoor
open Go Go.RowKit Tryz
variable{k:Nat}
section
open Go.Shelf
attribute [local go_sem] qYb
def CaS.ent(a:CaS)(x:It9):Ent:=⟨x.1,x.2.1.toNat,x.2.2,(a.sums x.1).getD 0⟩
def CaS.ents(n:CaN)(a:CaS):List Ent:=(vis (spanL a.ps 0 n.bl) 0).map a.ent
def CaS.fd(a:CaS):CaS:=a.dev (flushR a.dF a.dO a.dP)
def CaS.svR(n:CaN)(a:CaS):DRes:=saveR a.dF a.dO a.dP (ckO (1+(1-a.which)*n.pa) n.pa (pagesB (a.next-1) (a.ents n)))
def CaS.ckd(n:CaN)(a:CaS):CaS:={a.dev (a.svR n)with which:=1-a.which,cov:=a.next-1,W:=[],st:=freeTo a.st (pos a.st 3)}
def CaS.ckpt(n:CaN)(a:CaS):CaS×Int:=
 if(flushR a.bF a.bO a.bP).cd≠0 then(a.fb,(flushR a.bF a.bO a.bP).cd)
 else if(flushR a.fb.dF a.fb.dO a.fb.dP).cd≠0 then(a.fb.fd,(flushR a.fb.dF a.fb.dO a.fb.dP).cd)
 else if(a.fb.fd.svR n).cd≠0 then(a.fb.fd.dev (a.fb.fd.svR n),(a.fb.fd.svR n).cd)else(a.fb.fd.ckd n,0)
theorem wi(F:List Bk)(O:List (Nat×Bk))(P:List Int):(flushR F O P).O.length<=O.length:=by
 unfold flushR;repeat' split
 all_goals simp
theorem JF{b:List (Int×Bool)}{fr:Nat}{x:It9}(h:x∈vis b fr):∃k,∃s:k<b.length,x=(fr+k,b[k])/\b[k]≠(-1,false):=by
 have:∀m,m<=b.length->x∈visTo b fr m->∃k,∃s:k<b.length,x=(fr+k,b[k])/\b[k]≠(-1,false):=by
  intro m
  induction m with
  |zero=>intro _ h;cases h
  |succ m q=>
   intro v h;by_cases j:b[m]=(-1,false)
   .rw [wG oM j]at h;exact q oM h
   .rw [vJ oM j]at h;rcases qzl.1 h with h|h
    .exact q oM h
    .simp at h;exact⟨m,oM,h,j⟩
 exact this _ (qXp _) h
theorem xz:∀(n:Nat) (l:List Nat),l.Nodup->(∀x∈l,x<n)->l.length<=n
 |0,l,_,h=>by
  cases l with
  |nil=>exact qXp _
  |cons x l=>exact absurd (h x oe) oM
 |n+1,l,b,h=>by
  by_cases j:n∈l
  .have h1:=xz n (l.erase n) (b.erase n) (fun x hx=>by
    have h2:=(b.mem_erase_iff).1 hx;have:=h x h2.2;have:=h2.1;omega)
   rw[List.length_erase_of_mem j]at h1;omega
  .have h1:=xz n l b (fun x hx=>by
    have:=h x hx;have:x≠n:=fun e=>j (e▸hx);omega)
   omega
theorem zdx{ps:List (Int×Bool)}{s:Nat}(h:Good ps s)(m:Nat):(vis (spanL ps 0 m) 0).length<=s:=by
 have H:∀k (v:k<(spanL ps 0 m).length),∃h:k<ps.length,(spanL ps 0 m)[k]=ps[k]:=fun k v=>⟨by simp[spanL]at v;omega,by simp[spanL]⟩
 have J:∀k,k<=(spanL ps 0 m).length->((visTo (spanL ps 0 m) 0 k).map (fun x=>x.2.1.toNat)).Nodup/\∀x∈visTo (spanL ps 0 m) 0 k,∃b,∃j:b<ps.length,b<k/\x.2=ps[b]/\0<=ps[b].1/\ps[b].1<s:=by
  intro k
  induction k with
  |zero=>exact fun _=>⟨qzx,fun x hx=>by cases hx⟩
  |succ k K=>
   intro v;obtain⟨h1,h2⟩:=K oM;by_cases A:(spanL ps 0 m)[k]=(-1,false)
   .rw [wG oM A];exact⟨h1,fun x hx=>by obtain⟨b,j,E,q⟩:=h2 x hx;exact⟨b,j,oM,q⟩⟩
   .rw [vJ oM A];obtain⟨D,e⟩:=H k oM;have L:=(h.each k D).resolve_left (by rw[<-e];exact A);refine⟨?_,fun x hx=>?_⟩
    .rw [qzg,qzv];refine⟨h1,oe,?_⟩;intro u M Q F N;subst N;obtain⟨x,hx,rfl⟩:=qzq.1 M;obtain⟨b,j,E,q,G,O⟩:=h2 x hx;simp only[qzh,qzj,qzt]at F;rw[q,e]at F;have:=h.inj b k j D G oM;omega
    .rcases qzl.1 hx with hx|hx
     .obtain ⟨b,j,E,q⟩:=h2 x hx;exact⟨b,j,oM,q⟩
     .simp at hx;subst hx;exact⟨k,D,oM,e,L⟩
 obtain⟨h1,h2⟩:=J _ (qXp _);have:=xz s _ h1 (fun x hx=>by
  obtain⟨y,hy,rfl⟩:=qzq.1 hx;obtain⟨b,j,-,q,G,O⟩:=h2 y hy;rw[q];omega)
 rwa[qzb]at this
section
variable{own own':Nat->Nat}{w w':World}{c:Nat}{n:CaN}{p:CaP}{a:CaS}
theorem JG(h:CaAt own w c n p a)(L:a.dO.length<=50000)(seq wh:Nat)(s:wh<=1)(b:Option Addr)(k lc:Nat)(E:List Ent)(v:E.length=k)(A:needN k<=n.pa)(D:k<=100000)
  (F:∀j,Below w.heap.size w j->Calls prog 98 #[.int .i64 (seq:Int),.slice b k lc] j (xx j seq E)):
  Calls prog 31 #[ptr p.ssd,.int .i64 1,.int .i64 (n.pa:Int),.int .i64 (wh:Int),.int .i64 (seq:Int),.slice b k lc] w
   (zx own w c n p (a.dev (saveR a.dF a.dO a.dP (ckO (1+wh*n.pa) n.pa (pagesB seq E)))) (.int .i64 (saveR a.dF a.dO a.dP (ckO (1+wh*n.pa) n.pa (pagesB seq E))).cd)):=by
 have G:=h.ok.z;have H:=h.fl;have M:=h.ok.s1;have N:=h.ok.p2;unfold CaN.size at G H;exact(Jt h.kC (fun _ h=> .inr h) 1 n.pa seq wh s b k lc E v A D oM oM F).mono fun _ _ ⟨J,K,q⟩=>⟨J,_,h.kz q K (QG _ _ _ _),h.did2 q⟩
def CkI(a:CaS)(wz:World)(lb:Nat){qs:List (Int×Bool)}(pre:List (ItM qs 0))(W:World):Prop:=
 Upd (fun j=>j=lb\/wz.heap.size<=j) wz W/\∃v,W.heap[lb]?=some (.cells #[v] 123 (0,0))/\Sl W 132 4 v pre.length ((pre.map (fun x=>a.ent x.1)).flatMap entC)/\From wz.heap.size v/\(pre=[]->v=.slice none 0 0)
theorem Sl.cellsAt{w:World}{e:TypeId}{n:Nat}{v:Value}{xs:List Value}(h:Sl w e k v n xs){g:Nat}(b:v.ownBlock=some g):∃cs t z,w.heap[g]?=some (.cells cs t z):=by
 obtain⟨-,⟨rfl,-⟩|⟨q,s,A,D,rfl,j,-⟩⟩:=h
 .cases b
 .cases b;exact⟨_,_,_,j⟩
theorem zaO:(prog.info? 132).map (fun i=>(i.zero.map (·.cells.size),i.size,i.bytes))=some (some 4,4,32):=kR
theorem sI:∃i z,prog.info? 132=some i/\i.zero=some z/\z.cells.size=4/\i.size=4/\i.bytes=32:=by
 obtain⟨i,h,b⟩:=qYc.1 zaO;simp only[qYe]at b;obtain⟨h1,h2,j⟩:=b;obtain⟨z,q,s⟩:=qYc.1 h1;exact⟨i,z,h,q,s,h2,j⟩
theorem Zcg17{P:Prop}(h:P:=by
  refine s.o _ _ (ce.out) (fun _=>?_);clear s L;refine Wl.r 14 (fun L s=>?_);refine zQ rfl _ _ _ rfl rfl rfl ak.o.1 ?_;refine s.o _ _ (dj.o) (fun _=>?_);clear s L;refine Wl.r 15 (fun L s=>?_);go_simp
  rw[<-ak.o.2.2.2];refine s.o _ _ (dk.o) (fun _=>?_);clear s L;refine Wl.d ?_
  gi_wp2
  exact dh.o):P:=h
theorem Yk(h:CaAt own w c n p a)(cx:∀k U,a.sums k=some U->U<=4294967295)(cy:a.dO.length<=50000):
  Calls prog 72 #[ptr c] w (zx own w c n p (a.ckpt n).1 (.int .i64 (a.ckpt n).2)):=by
 obtain⟨w1,b0⟩:=qqe (w.alloc (.cells #[ptr c] 88));have bu:=qqu b0;have h1:=h.new bu;have au:Box own w1 w.heap.size (.cells #[ptr c] 88):=by rw[b0];exact Box.made h.far _
 have aJ:=h.j3 bu;have av:=Y3 h cx cy;have cz:=h.clt;obtain⟨-,dL,-⟩:=h.cells;have cA:=Y3 h1 au aJ;have cB:=qqh (vW h1);have A:a.ckpt n=a.ckpt n:=rfl
 conv at A=>rhs;unfold CaS.ckpt
 obtain⟨eK,cC⟩:=qqe (a.ckpt n);rw[<-cC]at A⊢;clear h cx cy h1 au aJ bu cC;generalize dM:(flushR a.bF a.bO a.bP).cd=ah at*;replace A:=qqh A;refine(callsIn_wide (n:=3)).1 ?_;refine callsIn_of_wp_marks func72 rfl trivial ?_ rfl;simp only[ntmps72,qXh,qyz,qzc,Nat.reduceAdd,Nat.reduceSub,qxi,qxj,qXb,qxx,qzu,qxy];refine wpIn_wide.2 ?_;go_wp2_with fail
 rw[<-b0];clear b0 dL;refine cB.o.mono ?_;rintro e dN ⟨rfl,dQ,aw,bv⟩;replace aw:CaAt dQ dN c n p a.fb:=aw;obtain⟨h1,au,aJ⟩:=cA.o;have ax:=au.did bv;have b3:=aw.cells.1;have Y:=za ax.1 0;have b4:=Y3 aw ax (aJ.trans bv);have bx:=qqh (ZU aw);clear aw bv ax h1 au aJ cB cA dM;by_cases H:ah=0
 rotate_left
 .have b5:(ah==0)=false:=by simpa using H
  go_wp2_with fail
  obtain⟨h2,-,ay⟩:=b4.o;have a8:=A.out;rw[if_pos H]at a8;rw[a8];clear Y b3 bx b4 cz av b5;exact⟨_,results_tmp rfl _ _ _,rfl,_,h2,ay⟩
 subst H;replace A:=A.out;rw[if_neg oe]at A;generalize (flushR a.fb.dF a.fb.dO a.fb.dP).cd=ah at*;replace A:=qqh A;go_wp2_with fail
 refine bx.o.mono ?_;rintro e az ⟨rfl,aa,b6,bz⟩;replace b6:CaAt aa az c n p a.fb.fd:=b6;obtain⟨h2,ax,ay⟩:=b4.o;have aK:=ax.did bz;have bA:=Y3 b6 aK (ay.trans bz);clear b6 bz aK h2 ax ay bx b4 b3 Y;by_cases H:ah=0
 rotate_left
 .have b5:(ah==0)=false:=by simpa using H
  go_wp2_with fail
  obtain⟨h2,-,ay⟩:=bA.o;have a8:=A.out;rw[if_pos H]at a8;rw[a8];clear bA cz av b5;exact⟨_,results_tmp rfl _ _ _,rfl,_,h2,ay⟩
 subst H;replace A:=A.out;rw[if_neg oe]at A;replace A:=qqh A;go_wp2_with fail
 obtain⟨aL,aK,bB⟩:=bA.o;obtain⟨an,b7⟩:=qqe (az.alloc (.cells #[.slice none 0 0] 123));have b8:Upd (fun _=>False) az an:=by rw[b7];exact((uur _ az).alloc _)
 have D:Upd (fun _=>False) an an.drew:=(uur _ an).drew;have v:=aL.new b8;have J:=aK.new b8;have bC:Box aa an az.heap.size (.cells #[.slice none 0 0] 123):=by rw[b7];exact Box.made aL.far _
 have N:=bB.trans (aL.j3 b8);obtain⟨lb,bD⟩:=qqe (az.heap.size);rw[<-bD]at bC;have dR:=qqh (show w.heap.size<=lb by have:=bB.upd.size;omega);have ab:=Y4 (v.new D) (J.new D) (bC.new D) (N.trans (v.j3 D));obtain⟨eL,eM,bE,dS,dT⟩:=(v.new D).ix;have cD:=v.pl;have b9:=Y3 bE.good v.ok.s2 v.ok.b2;have au:=av.o.1.ok.b1;have cE:=zcF bE 0 n.bl (by rw[cD];omega);have dU:=qqh cE;obtain⟨-,-,-,-,dV,-⟩:=v.cells;have dW:=v.sup.2.1;have Y:=za J.1 0;rw[<-b7,<-bD];clear aL aK bB b8 v J bC N bE dS dT cE b7 D bD
 go_still_tail 10,kR
 change wpList _ _ _ _ _ an.drew
 generalize an.drew=aM at*;clear dV dW Y;go_wp2_with fail
 refine dU.o.mono ?_;rintro e G ⟨cF,cG,g,bG,bH,rfl,⟨eN,eO,eP⟩,dX,dY,E,aA,cH,ba,ad⟩;go_wp2_with fail
 have bb:(spanL a.ps 0 n.bl).length<=4096:=by
  have:=av.o.1.ok.b2;simp[spanL];omega
 have dZ:a.fb.fd.ps=a.ps:=rfl;rw[dZ]at aA ba cD b9;have bc:∀k (h:k<(spanL a.ps 0 n.bl).length),(spanL a.ps 0 n.bl)[k]=(-1,false)\/(0<=(spanL a.ps 0 n.bl)[k].1/\(spanL a.ps 0 n.bl)[k].1<n.sl):=by
  intro k ae;have:(spanL a.ps 0 n.bl)[k]=a.ps[k]'(by simp[spanL]at ae;omega):=by simp[spanL]
  rw[this];exact b9.out.1.each k _
 have eQ:=ad.size;have eR:lb<aM.heap.size:=zd ab.o.2.2.1.1;have cI:aa lb=0:=ab.o.2.2.1.2;have bI:Hid (Upd (fun _=>False) aM G):=uuo ad;have e0:(vis (spanL a.ps 0 n.bl) 0).length<=4096:=qXr (sY _ _ _) bb;obtain⟨ao,bd⟩:=qqe (spanL a.ps 0 n.bl);rw[<-bd]at aA ba bb bc e0;have e1:ao.length=n.bl:=by rw[bd];simp[spanL];omega
 have be:=Y4 bc b9.out.2 e1 bd;obtain⟨v,J,-,N⟩:=ab.o;have ap:∀b,(b=lb\/G.heap.size<=b)->aa b=0/\b≠1/\b≠0:=by
  intro b F;have eS:=v.nib.lt;have eT:=v.tur.lt;have eU:=v.on;rcases F with rfl|F
  .refine ⟨cI,fun e=>?_,fun e=>?_⟩
   .have h2:=za (ab.o.2.2.1.1) 0;rw[e]at h2;have:=h2.symm.trans (v.nib.c 0 de);simp at this
   .have h2:=za (ab.o.2.2.1.1) 0;rw[e]at h2;have:=h2.symm.trans v.tur.c0;simp at this
  .exact ⟨v.far b oM,oM,oM⟩
 have bf:w.heap.size≠lb:=by
  intro e;have:=J.1;rw[e]at this;have:=this.symm.trans ab.o.2.2.1.1;simp at this
 have bg:=Y2 ap bf;clear v J N ap bf;refine(wpIn_wide (n:=4)).1 ?_
 refine' wpIn_rangeFunc_ownH rfl oM (gf:=203) (lb:= #[.pointer (some ⟨cF,0,none⟩),.pointer (some ⟨cG,0,none⟩)]) rfl trivial (enters_of func203 kR rfl)
  (Za _ oM (fun b=>b=lb\/G.heap.size<=b) cF cG g bG bH ao 0 G bb oM (fun k ae=>(bc k ae).imp id And.left) E dY dX oM oM aA cH ba) uf (fun j l o e2 cJ=>ww (M:=G.heap.size) (fun b h=> .inr h) j l o e2 cJ) (qxl _ _) (fun _=>rfl)
  (CkI a G lb)
  (fun _ _ _=>False)
  (fun O af cK bJ q E aN=>by
   obtain⟨hu,U,V,q,W,bK⟩:=q;exact⟨yI hu E (fun r e=> .inr (aN r e).1),U,(grownBy_keeps_cells E (fun r e=>(aN r e).2) V rfl).trans V,
    q.keep (Upd.kj (S:=fun b=>bJ=some b) E (fun g e _=>e)) (fun g e3 e=>by
     obtain⟨o,bL,H⟩:=(aN g e).2;obtain⟨cs,t,z,aA⟩:=q.cellsAt e3;rw[aA]at bL;cases bL;cases H),W,bK⟩)
  (fun _ _ _ _ _ q _ _=>q)
  ⟨uur _ _,_,bI.o.jV ab.o.2.2.1.1,Sl.nil _ _ _,From.nil _ _ _,fun _=>rfl⟩
  (fun x bM j=>∃pb,bM=(_:ItM ao 0->Nat->Act) x pb/\SE x.1 pb j)
  (fun x bM=>fun eV af cK bJ q E aN=>by obtain⟨pb,e,aB⟩:=q;exact⟨pb,e,Zb _ x.1 pb () af cK bJ aB E aN⟩)
  ?assign ?body ?done ?stop
 case assign=>
  rintro l O x j L ⟨hu,U,V,q,W,bK⟩ s
  gi_wp2
  have bh:Upd (fun _=>False) j (j.alloc (.cells #[.int .i64 x.1.2.1,.bool x.1.2.2] 231)):=(uur _ _).alloc _;have e4:=World.grownBy_alloc j (.cells #[.int .i64 x.1.2.1,.bool x.1.2.2] 231) none;refine s _ _ (KeepsFrom.of_grownBy e4 (fun b e=>by cases e)) (bh.mono fE) ⟨hu.trans (bh.mono fE),U,bh.jV V,q.keep bh (fun _ _ h=>h),W,bK⟩ ⟨j.heap.size,?_,zc j _ rfl⟩;generalize j.heap.size=pb;exact rfl
 case stop=>
  rintro aO c O j _ _ h _;exact h.elim
 case body=>
  rintro l O ⟨⟨Q,R,Z⟩,hx⟩ bM j cJ _ ⟨hu,U,V,q,W,-⟩ ⟨pb,rfl,aB⟩ hlt;have e5:Q<4096/\0<=R/\R<n.sl:=by
   obtain⟨k,ae,e,bN⟩:=JF hx;simp only[qYe]at e;obtain⟨rfl,a6⟩:=e;have:=(be.o.1 k ae).resolve_left bN;rw[<-a6]at this;exact⟨oM,this⟩
  obtain⟨eW,e6,eX⟩:=e5;obtain⟨v,J,-,N⟩:=ab.o;have ap:=bg.o.1;have bf:=bg.o.2;have e7:pb≠lb:=by
   intro e;have h2:j.heap[pb]?=_:=aB;rw[e]at h2;have:=h2.symm.trans V;simp at this
  have cL:∀g,U.ownBlock=some g->g≠pb:=by
   intro g E e;obtain⟨-,⟨rfl,-⟩|⟨aq,bG,bH,e8,rfl,cM,-⟩⟩:=q
   .cases E
   .cases E;replace e:aq=pb:=e;rw[e]at cM;have:=cM.symm.trans (show j.heap[pb]?=_ from aB);simp at this
  have cN:∀g,U.ownBlock=some g->g≠lb:=fun g E e=>by have:=W g E;omega
  obtain⟨aC,bi⟩:=qqe ((a.sums (Q:Int)).getD 0);have aP:∀af,Upd (fun b=>b=lb\/G.heap.size<=b) aM af->af.cell? ⟨w.heap.size,0,none⟩=some (ptr c)/\af.cell? ⟨c,22,none⟩=some (.map (some p.sm))/\(Instr.lookup 145 (.map (some p.sm)) (.int .i64 (Q:Int)) false).run prog af=.ok (.int .i64 (aC:Int)) af:=by
   intro af cO;have cP:=v.kf cO ap;obtain⟨-,-,-,-,-,-,-,-,e9⟩:=cP.cells;refine⟨za ((cO.block _ (zd J.1) (fun q=>by
    rcases q with q|q
    .exact bf q
    .have:=zd J.1;omega)).trans J.1) 0,e9,?_⟩
   rw[bi];exact cP.sm.1.look1 oM oM
  have ai:Upd (fun b=>b=lb\/G.heap.size<=b) aM j:=(bI.o.mono fE).trans hu;obtain⟨bj,bQ⟩:=qqe (j.drew);have D:Upd (fun _=>False) j bj:=by rw[bQ];exact(uur _ j).drew
  have bR:=ai.trans (D.mono (S':=fun b=>b=lb\/G.heap.size<=b) (fun _ _ h=>h.elim));obtain⟨cQ,bk⟩:=qqe (bj.alloc (.cells #[.int .i64 (Q:Int),.int .i64 R,.bool Z,.int .i64 (aC:Int)] 132));have ag:=qqu bk;have bS:=bR.trans (ag.mono (S':=fun b=>b=lb\/G.heap.size<=b) (fun _ _ h=>h.elim));have cR:=qqg bk;obtain⟨ea,z0,bT,bU,cT,cU,cV⟩:=sI;have bV:=(q.keep D (fun _ _ h=>h)).keep ag (fun _ _ h=>h);have eY:O.length<=4096:=oM;obtain⟨eZ,w',cW,bW,aD,cX⟩:=yy (P:=prog) (m:=1) (x':=.slice (some ⟨bj.heap.size,0,none⟩) 1 1) (news:=[.int .i64 (Q:Int),.int .i64 R,.bool Z,.int .i64 (aC:Int)]) 123 123 ea z0 32 underlying123 bT bU cU cV cT de bV
   ⟨rfl,de,_,_,rfl,(fun h=>by cases h),fun bX aQ b u F=>by cases aQ;rw[qxa,za cR];simpa using F⟩ oX (by simp only[maxLen];omega) oM
  obtain⟨bY,bZ,eb⟩:=bW.rd.jW;subst eb;have c3:=bS.trans (aD.mono (S':=fun b=>b=lb\/G.heap.size<=b) (fun b _ F=> .inr (W b F)));obtain⟨T,bn⟩:=qqe (w'.setCell ⟨lb,0,none⟩ (.slice bY (O.length+1) bZ));have aE:Upd (fun b=>b=lb) w' T:=by rw[bn];exact zi _ _ _ _
  have cY:=c3.trans (aE.mono (S':=fun b=>b=lb\/G.heap.size<=b) (fun b _ F=> .inl F));have gd:bj.heap[pb]?=some (.cells #[.int .i64 R,.bool Z] 231 (0,0)):=D.jV aB;have aR:=ag.jV gd;have aq:=(aD.block pb (zd aR) (fun h=>cL pb h rfl)).trans aR;have c4:=(aE.block pb (zd aq) e7).trans aq;have c5:=D.jV V;have bo:=ag.jV c5;have aS:=(aD.block lb (zd bo) (fun h=>cN lb h rfl)).trans bo;have cZ:T.heap[lb]?=some (.cells #[.slice bY (O.length+1) bZ] 123 (0,0)):=by rw[bn];exact zh aS 0 _
  have c6:=za gd 0;have c7:=za gd 1;have ca0:=za aR 0;have c8:=za aR 1;have c9:=za aq 0;have cb:=za aq 1;have cc:=za c4 0;have cd:=za c4 1;have ec:=za c5 0;have ed:=za bo 0;have ee:=za aS 0;have f0:=zg aS 0;simp at c6 c7 ca0 c8 c9 cb cc cd ec ed ee;have d0:KeepsOthers j T:=by
   have aj:KeepsOthers j cQ:=⟨by have h1:=D.size;have h2:=ag.size;omega,fun k o ae bL=>ag.jV (D.jV ae)⟩
   have a6:KeepsOthers cQ w':=zA aD (fun b F _=>bV.cellsAt F);exact(aj.trans a6).trans (zA aE (fun b F _=>⟨_,_,_,F▸aS⟩))
  have d1:KeepsFrom G.heap.size j T/\Upd (fun b=>b=lb\/G.heap.size<=b) j T/\CkI a G lb (O++[(⟨(Q,R,Z),hx⟩:ItM ao 0)]) T:=by
   have d2:Upd (fun b=>b=lb\/G.heap.size<=b) j T:=(((D.mono fE).trans (ag.mono fE)).trans (aD.mono (fun b _ F=> .inr (W b F)))).trans (aE.mono (fun b _ F=> .inl F));have d3:From G.heap.size (.slice bY (O.length+1) bZ):=by
    intro g E;rcases cX with e|⟨f1,e,hge⟩
    .rw [e]at E;exact W g E
    .rw [e]at E;cases E;have h1:=hu.size;have h2:=D.size;have aL:=ag.size;omega
   refine⟨d0.from _,d2,hu.trans d2,_,cZ,?_,d3,fun e=>by simp at e⟩;have ef:=bW.keep aE (fun g E e=>by have:=d3 g E;omega);have eg:entC (a.ent (Q,R,Z))=[.int .i64 (Q:Int),.int .i64 R,.bool Z,.int .i64 (aC:Int)]:=by
    unfold entC CaS.ent;simp only;rw[<-bi,Int.toNat_of_nonneg e6]
   have eh:(O++[(⟨(Q,R,Z),hx⟩:ItM ao 0)]).length=O.length+1:=oe;have ei:((O++[(⟨(Q,R,Z),hx⟩:ItM ao 0)]).map (fun x=>a.ent x.1)).flatMap entC=(O.map (fun x=>a.ent x.1)).flatMap entC++[.int .i64 (Q:Int),.int .i64 R,.bool Z,.int .i64 (aC:Int)]:=by
    rw[qzg,qyd,<-eg];simp
   rw[eh,ei];exact ef
  obtain⟨d4,d5,d6⟩:=aP _ bR;obtain⟨d7,d8,d9⟩:=aP _ bS;obtain⟨da,db,dc⟩:=aP _ c3;obtain⟨dd,df,dg⟩:=aP _ cY;have dh:=qqh d1;replace bi:=qqh bi;have di:=Y5 d4 d5 c6 c7 d6;have ce:=Y5 d7 d8 ca0 c8 d9;have dj:=Y5 da db c9 cb dc;have dk:=Y5 dd df cc cd dg;have ak:=Y4 cW bk bQ bn;clear d1 d4 d5 d6 d7 d8 d9 da db dc dd df dg cW bk bQ bn d0 cZ aS bo c5 c4 aq aR gd cY aE c3 cX aD bW bV cR bS ag bR D ai aP ap cL cN q W V aB v J N hu bT bU cT cU cV c6 c7 ca0 c8 c9 cb cc cd
  gi_wp2
  refine wI (S:=fun j=>j.cell? ⟨w.heap.size,0,none⟩=some (ptr c)/\j.cell? ⟨c,22,none⟩=some (.map (some p.sm))/\j.cell? ⟨pb,0,none⟩=some (.int .i64 R)/\j.cell? ⟨pb,1,none⟩=some (.bool Z)/\(Instr.lookup 145 (.map (some p.sm)) (.int .i64 (Q:Int)) false).run prog j=.ok (.int .i64 (aC:Int)) j) (by rintro⟨_,_,h⟩;exact h) kR kR (by rw[<-ak.o.2.2.1];exact di.out) (fun _=>?_);rw[<-ak.o.2.2.1];have dl:=di.out;refine Wl.i [1,2,3,4,5,6,7,8,9,10,11,12] ?_;iterate 12 refine Wl.t dl ?_
  refine Wl.o ?_;refine qYy (rs:=[0,13]) kR oe ?_;refine qxb rfl (fun L s=>?_) (qxb rfl (fun L s=>?_) qxc)
  .go_simp
   refine s.o _ _ (dl) (fun _=>?_);clear s L;refine Wl.r 13 (fun L s=>?_);go_simp
   rw[<-ak.o.2.1];exact Zcg17
  .go_simp
   rw[<-ak.o.2.1];refine s.o _ _ (ce.out) (fun _=>?_);clear s L;refine Wl.r 0 (fun L s=>?_);go_simp
   exact Zcg17
 case done=>
  rintro aO a7 j f2 dm ⟨hu,U,V,q,W,dn⟩ s;have bp:a7.map (fun x=>a.ent x.1)=a.ents n:=by
   rw[show(fun x:ItM ao 0=>a.ent x.1)=a.ent∘(·.1)from rfl,<-qzi,dm,be.o.2.2.2];rfl
  rw[bp]at q;have aT:(a.ents n).length=a7.length:=by rw[<-bp];simp
  have f3:a7.length<=n.sl:=by
   rw[<-aT];unfold CaS.ents;rw[qzb];exact zdx b9.out.1 _
  have dp:∀x∈a.ents n,Ze x:=by
   intro x hx;rw[<-bp]at hx;obtain⟨⟨y,hy⟩,-,rfl⟩:=qzq.1 hx;obtain⟨k,ae,rfl,bN⟩:=JF hy;have h1:=(be.o.1 k ae).resolve_left bN;have h2:=be.o.2.1;refine⟨by simp only[CaS.ent];omega,by simp only[CaS.ent];omega,?_⟩;simp only[CaS.ent];cases H:a.sums ((0+k:Nat):Int)with
   |none=>simp
   |some m=>exact av.o.2.1 _ _ H
  obtain⟨v,J,-,N⟩:=ab.o;have ai:Upd (fun b=>b=lb\/G.heap.size<=b) aM j:=(bI.o.mono fE).trans hu;have K:=v.kf ai bg.o.1;have ad:Box aa j w.heap.size (.cells #[ptr c] 88):=⟨(ai.block _ (zd J.1) (fun q=>by
    rcases q with q|q
    .exact bg.o.2 q
    .have:=zd J.1;omega)).trans J.1,J.2⟩
  have aF:Box aa j lb (.cells #[U] 123):=⟨V,cI⟩
  have aU:Box aa j aO (.deferred (some [])):=⟨s,v.far aO oM⟩
  have aV:Did own aa w j:=⟨N.upd.new ai (fun i bT q=>by have h1:=dR.o;have h2:=N.upd.size;rcases q with q|q<;>omega),N.old,N.new,fun b F=>N.far b (by have:=ai.size;omega)⟩
  obtain⟨cf,ch,ci⟩:=q.rd.jW;have dq:∀aG,Below j.heap.size j aG->Calls prog 98 #[.int .i64 ((a.next-1:Nat):Int),.slice cf a7.length ch] aG (xx aG (a.next-1) (a.ents n)):=by
   intro aG bq;have f4:a.next<=1099511627777:=K.jr.good.mx;have dr:=K.nib.below bq;by_cases ds:a7=[]
   .have e:=dn ds;rw[ci]at e;injection e with aj a6 cj
    have ej:a.ents n=[]:=qyb (by rw[aT,a6]);rw[aj,a6,cj,ej];exact Zg _ oM dr
   .have ek:0<a7.length:=List.length_pos_iff.2 ds;obtain⟨-,⟨-,e⟩|⟨g,bG,bH,e8,e,E,el,em,bU,H⟩⟩:=q.keep (uuo (S:=fun _=>False) bq) (fun _ _ h=>h)
    .omega
    rw[ci]at e;injection e with aj a6 cj
    subst aj cj;have hsl:=v.ok.s2;exact Vz (a.ents n) aT ek oM (fun b u F=>by rw[za E];exact H b u F) el em _ oM dp dr
  have cl:JnGood (1+2*n.pa) n.jo a.cov a.next a.W:=K.jr.good;have f8:1<=a.next:=by have:=cl.wl;omega
  have f9:a.next<=1099511627777:=cl.mx;have fa:a.which<=1:=K.wh;have en:Hid (Calls prog 133 #[ptr p.jr] j fun e w'=>e=.returned (.int .i64 (a.next:Int))/\j=w'):=(ca_jnext K:)
  obtain⟨-,-,aW,co,-⟩:=K.cells;replace aW:j.cell? ⟨c,16,none⟩=some (.int .i64 (a.which:Int)):=aW;have Y:=za ad.1 0;have aj:((1-a.which:Nat):Int)=1-(a.which:Int):=oM;have a6:((a.next-1:Nat):Int)=(a.next:Int)-1:=oM;have cp:=Y2 aj a6;subst ci;have eo:=Y5 K ad aF aU aV;have dt:needN a7.length<=n.pa:=by have:=K.ok.p1;unfold needN;omega
  have du:(a.fb.fd).dO.length<=50000:=qXr (wi _ _ _) av.o.2.2;have br:=Y4 dq aT dt du;have fc:a7.length<=4096:=by have:=K.ok.s2;omega
  have dw:Hid (w.heap.size<=aO):=by show _<=_;have h1:=N.upd.size;omega
  clear v J N ai K ad aF aU aV s cl aj a6 dq aT dt du dp bp q W V dm dn hu aA cH ba bb bc bd;go_wp2_with fail
  refine en.o.mono ?_;rintro e fe ⟨rfl,rfl⟩;go_wp2_with fail
  obtain⟨K,ad,aF,aU,aV⟩:=eo.o;have D:Upd (fun _=>False) j j.drew:=(uur _ j).drew;have cq:Calls prog 31 #[ptr p.ssd,.int .i64 1,.int .i64 (n.pa:Int),.int .i64 ((1-a.which:Nat):Int),.int .i64 ((a.next-1:Nat):Int),.slice cf a7.length ch] j.drew (zx aa j.drew c n p (a.fb.fd.dev (a.fb.fd.svR n)) (.int .i64 (a.fb.fd.svR n).cd)):=JG (K.new D) br.o.2.2.2 (a.next-1) (1-a.which) oM cf a7.length ch (a.ents n) br.o.2.1 br.o.2.2.1 oM (fun aG bq=>br.o.1 aG ((qxl _ j).drew.trans bq));obtain⟨bX,aQ⟩:=qqe (a.fb.fd.dev (a.fb.fd.svR n));rw[<-aQ]at cq;generalize (a.fb.fd.svR n).cd=ah at*;have ep:=qqh cq;have cr:=qqh aQ;clear aQ;have er:=Y4 (ad.new D) (aF.new D) (aU.new D) (aV.trans (K.j3 D));obtain⟨b3,-⟩:=K.cells;have es:=K.lay.1;obtain⟨-,-,-,-,et,-⟩:=K.sup;have eu:=za aF.1 0;clear K ad aF aU aV D cq aW co
  go_still_tail 17,kR
  change wpList _ _ _ _ _ j.drew
  generalize j.drew=ff at*;clear b3 es et eu Y;go_wp2_with fail
  rw[<-cp.o.1,<-cp.o.2];refine ep.o.mono ?_;rintro e T ⟨rfl,ct,aH,bs⟩;obtain⟨dx,ew,dy,dz⟩:=er.o;have am:=dx.did bs;have X:=dy.did bs;have ar:=dz.trans bs;have fg:=aH.clt;have Y:=za am.1 0;have aW:=aH.cells.2.2.1;have ex:=aH.fz 16;have co:=aH.cells.2.2.2.1;have ap:w.heap.size≠c:=oM;have dA:=Y4 aH am X ar;clear aH bs dx ew dy dz am X ar;by_cases H:ah=0
  rotate_left
  .have b5:(ah==0)=false:=by simpa using H
   have a8:=A.out;rw[if_pos H,<-cr.out]at a8;have ey:=qqh a8;clear a8;go_wp2_with fail
   obtain⟨aI,-,X,ar⟩:=dA.o;refine⟨oe,.inl ⟨_,_,rfl,run_takeDeferred X.1,?_⟩⟩;have ez:=aI.putObj X rfl (.deferred none);have eA:=ar.putObj dw.out (.deferred none);rw[ey.o];exact⟨_,results_tmp rfl _ _ _,rfl,ct,ez,eA⟩
  subst H;replace A:=A.out;rw[if_neg oe]at A;replace A:=qqh A;go_wp2_with fail
  obtain⟨aI,am,X,ar⟩:=dA.o;have dB:=aI.turn1 (1-a.which) oM;have aX:=ar.trans (aI.did1 (.int .i64 ((1-a.which:Nat):Int)));have cu:=zi T c 16 (.int .i64 ((1-a.which:Nat):Int));have aY:Box ct (T.setCell ⟨c,16,none⟩ (.int .i64 ((1-a.which:Nat):Int))) w.heap.size (.cells #[ptr c] 88):=⟨(cu.block _ (zd am.1) ap).trans am.1,am.2⟩
  have aZ:Box ct (T.setCell ⟨c,16,none⟩ (.int .i64 ((1-a.which:Nat):Int))) aO (.deferred (some [])):=⟨(cu.block _ (zd X.1) (fun e=>by have:=X.2;rw[e,aI.oc]at this;exact absurd this de)).trans X.1,X.2⟩
  generalize T.setCell ⟨c,16,none⟩ (.int .i64 ((1-a.which:Nat):Int))=fh at*;have dC:bX.next=a.next:=by rw[cr.out];rfl
  have eB:=Y3 aY aZ aX;have eC:=qqh (SB dB ((a.next-1:Nat):Int) (by show _=(bX.next:Int)-1;rw[dC];exact cp.o.2));clear aI am X ar dB aX cu aY aZ Y aW ex co dC;refine eC.o.mono ?_;rintro e fi ⟨rfl,fj,dD,bt⟩;obtain⟨aY,aZ,aX⟩:=eB.o;have dE:=aY.did bt;have Y:=za dE.1 0;have eD:=Y2 (aZ.did bt) (aX.trans bt);have eE:=qqh (UO dD);clear aY aZ aX dE dD bt;go_wp2_with fail
  refine eE.o.mono ?_;rintro e fk ⟨rfl,eF,dG,cv⟩;obtain⟨dH,dI⟩:=eD.o;have eG:=Y3 dG (dH.did cv) (dI.trans cv);clear dG cv dH dI Y;go_wp2
  obtain⟨eH,dJ,eI⟩:=eG.o;refine⟨oe,.inl ⟨_,_,rfl,run_takeDeferred dJ.1,?_⟩⟩;have dK:=eH.putObj dJ rfl (.deferred none);have eJ:=eI.putObj dw.out (.deferred none);rw[A.out];refine⟨_,results_tmp rfl _ _ _,rfl,eF,?_,eJ⟩;rw[cr.out]at dK;exact dK
end
end
def zfw(n:CaN):CaS:=zhb n (caS0 n 1 0 (List.replicate n.size zB) [] [] (List.replicate n.bl zB) [] []) []
structure EI where
 b:Int
 s:Int
 d:Bool
 x:Int
def EI.cs(e:EI):List Value:=[.int .i64 e.b,.int .i64 e.s,.bool e.d,.int .i64 e.x]
def EI.enc(e:EI):Value:=.agg e.cs.toArray
theorem EI.enc_inj(x y:EI)(b:x.enc=y.enc):x=y:=by
 obtain⟨a,h,c,d⟩:=x;obtain⟨j,q,s,v⟩:=y;simp only[EI.enc,EI.cs,Value.agg.injEq]at b;obtain⟨rfl,rfl,rfl,rfl⟩:=b;rfl
theorem EI.one(e:EI):∀b∈e.cs,b.oneCell'=true:=by
 intro b h;simp only[EI.cs,qzm,qzy,qYv]at h;rcases h with rfl|rfl|rfl|rfl<;>rfl
def EI.zero:EI:=⟨0,0,false,0⟩
def AE(x:Int):Prop:= -9223372036854775808<=x/\x<9223372036854775808
def apPut(f:Int->Option EI)(e:EI):Int->Option EI:=fun s=>if s=e.b then some e else f s
def apM(l:List EI):Int->Option EI:=l.foldl apPut (fun _=>none)
theorem JH(l:List EI)(e:EI):apM (l++[e])=apPut (apM l) e:=by simp[apM,List.foldl_append]
theorem JI(l:List EI)(b:k<l.length):apM (l.take (k+1))=apPut (apM (l.take k)) l[k]:=by
 rw[qXk b,JH]
def AtB(f:Int->Option EI):Prop:=∀s e,f s=some e->e.b=s
theorem JJ(l:List EI):∀f,AtB f->AtB (l.foldl apPut f)/\∀j,((l.foldl apPut f) j).isSome=true↔j∈l.map EI.b\/(f j).isSome=true:=by
 induction l with
 |nil=>intro f h;exact⟨h,fun j=>oe⟩
 |cons e l v=>
  intro f h;have A:AtB (apPut f e):=by
   intro j D q;unfold apPut at q;split at q
   .rename_i s;cases q;exact s.symm
   .exact h j D q
  refine⟨(v _ A).1,fun j=>?_⟩;rw[List.foldl_cons,(v _ A).2 j,qzh,qzm];unfold apPut;by_cases s:j=e.b
  .simp [s]
  .simp [s]
theorem zdy(l:List EI):AtB (apM l):=(JJ l _ (fun s e h=>by cases h)).1
theorem XX(l:List EI)(s:Int):(apM l s).isSome=true↔s∈l.map EI.b:=by
 have:=(JJ l (fun _=>none) (fun s e h=>by cases h)).2 s;simpa[apM]using this
theorem VH{l:List EI}{k:Nat}(q:k<l.length)(s:((l.take k).map EI.b).Nodup)(h:(apM (l.take k) l[k].b).isSome=false):((l.take (k+1)).map EI.b).Nodup:=by
 rw[qXk q,qzg,qzv];refine⟨s,oe,fun a b v j e=>?_⟩;simp only[qzh,qzj,qzt]at j;subst j;rw[e]at b;have:=(XX _ _).2 b;rw[h]at this;cases this
theorem QL{l:List EI}{k:Nat}(j:k<l.length)(q:(apM (l.take k) l[k].b).isSome=true):¬(l.map EI.b).Nodup:=by
 intro h;have h1:=(XX _ _).1 q;rw[<-qXi k l,qzg,qzv]at h;exact h.2.2 _ h1 _ (List.mem_map_of_mem (by rw[qxz j];exact qzo)) rfl
def recE(r:List Int):EI:=⟨r.getD 3 0,r.getD 4 0,r.getD 5 0==1,r.getD 6 0⟩
def apR(f:Int->Option EI)(r:List Int):Int->Option EI:=fun s=>if s=r.getD 3 0 then(if r.getD 2 0=0 then some (recE r)else none)else f s
def apRs(f:Int->Option EI)(rs:List (List Int)):Int->Option EI:=rs.foldl apR f
theorem QM(f:Int->Option EI)(rs:List (List Int))(b:k<rs.length):apRs f (rs.take (k+1))=apR (apRs f (rs.take k)) rs[k]:=by
 rw[qXk b];unfold apRs;rw[List.foldl_append];rfl
theorem zaP(rs:List (List Int)):∀f,AtB f->AtB (apRs f rs):=by
 induction rs with
 |nil=>intro f h;exact h
 |cons r rs j=>
  intro f h;refine j _ (fun q e b=>?_);unfold apR at b;split at b
  .rename_i s
   split at b
   .cases b;exact s.symm
   .cases b
  .exact h q e b
theorem zaQ{p:EI->Prop}(l:List EI):∀f,(∀h e,f h=some e->p e)->(∀e∈l,p e)->∀h e,(l.foldl apPut f) h=some e->p e:=by
 induction l with
 |nil=>intro f j _;exact j
 |cons x l s=>
  intro f j q;refine s _ (fun h e b=>?_) (fun e b=>q e (qzn _ b));unfold apPut at b;split at b
  .cases b;exact q _ qzo
  .exact j h e b
theorem JK{p:EI->Prop}{l:List EI}{rs:List (List Int)}(s:∀e∈l,p e)(q:∀r∈rs,p (recE r)):∀b e,apRs (apM l) rs b=some e->p e:=by
 have:∀(rs:List (List Int)) f,(∀b e,f b=some e->p e)->(∀r∈rs,p (recE r))->∀b e,apRs f rs b=some e->p e:=by
  intro rs
  induction rs with
  |nil=>intro f j _;exact j
  |cons r rs v=>
   intro f j q;refine v _ (fun b e h=>?_) (fun r A=>q r (qzn _ A));unfold apR at h;split at h
   .split at h
    .cases h;exact q _ qzo
    .cases h
   .exact j b e h
 exact this rs _ (zaQ l _ (fun b e j=>by cases j) s) q
def Lists(f:Int->Option EI)(L:List EI):Prop:=(L.map EI.b).Nodup/\∀e,e∈L↔f e.b=some e
def cntS(L:List EI)(s:Int):Nat:=L.countP (fun e=>e.s==s)
def takenF(L:List EI):Int->Option Int:=fun s=>if cntS L s=0 then none else some (cntS L s:Int)
theorem XY(L:List EI)(e:EI):takenF (L++[e])=fun b=>if b=e.s then some ((cntS L e.s:Int)+1)else takenF L b:=by
 funext b
 unfold takenF cntS;rw[List.countP_append];by_cases h:b=e.s
 .subst h;simp
 .have j:(e.s==b)=false:=by simp;exact fun e=>h e.symm
  simp[h,j]
theorem XZ(L:List EI)(s:Int):cntS L s=0↔s∉L.map EI.s:=by
 unfold cntS;rw[List.countP_eq_zero];simp only[qzq,not_exists,not_and,beq_iff_eq]
theorem zaR(L:List EI)(s:Int):cntS L s<=L.length:=List.countP_le_length
theorem Wb(L:List EI)(s:Int):(takenF L s).getD 0=(cntS L s:Int):=by
 unfold takenF;split
 .rename_i h;rw[h];rfl
 .rfl
theorem qc(L:List EI)(s:Int):(takenF L s).isSome=true↔s∈L.map EI.s:=by
 unfold takenF;by_cases h:cntS L s=0
 .rw [if_pos h];exact⟨fun b=>(by cases b),fun b=>absurd b ((XZ L s).1 h)⟩
 .rw [if_neg h];exact⟨fun _=>Classical.byContradiction fun b=>h ((XZ L s).2 b),fun _=>rfl⟩
theorem VI{F:Int->Option EI}{L:List EI}{left:Int->Bool}{x:Int}{b:EI}(j:F x=some b)(q:b.b=x)(s:left x=true)(D:(L.map EI.b).Nodup)(v:∀e,e∈L↔F e.b=some e/\left e.b=false):
  ((L++[b]).map EI.b).Nodup/\∀e,e∈L++[b]↔F e.b=some e/\(left e.b&&!decide (e.b=x))=false:=by
 refine⟨?_,fun e=>?_⟩
 .rw [qzg,qzv];refine⟨D,oe,fun a E J A G=>?_⟩;simp only[qzh,qzj,qzt]at A;obtain⟨e,H,rfl⟩:=qzq.1 E;have:=((v e).1 H).2;rw[G,A,q,s]at this;cases this
 .rw [qzl,qzt,v e];by_cases h:e.b=x
  .rw [qYs h,h];constructor
   .rintro (⟨-,h2⟩|rfl)
    .rw [s]at h2;cases h2
    .exact ⟨j,oe⟩
   .rintro ⟨h1,-⟩;rw[j]at h1;exact .inr (qYd h1).symm
  .rw [decide_eq_false h];constructor
   .rintro (h2|rfl)
    .simpa using h2
    .exact absurd q h
   .intro h2;exact .inl (by simpa using h2)
theorem JL{L:List EI}(b:EI){c:Nat}(h1:c<=L.length)(h2:c=L.length↔(L.map EI.s).Nodup):
  (if(takenF L b.s).isSome=true then c else c+1)<=(L++[b]).length/\((if(takenF L b.s).isSome=true then c else c+1)=(L++[b]).length↔((L++[b]).map EI.s).Nodup):=by
 rw[qyy,qzg,qzv];simp only[qyz,qzc];by_cases h:(takenF L b.s).isSome=true
 .rw [if_pos h];refine⟨oM,fun e=>oM,fun e=>?_⟩;exact absurd rfl (e.2.2 _ ((qc L b.s).1 h) b.s oe)
 .rw [if_neg h];refine⟨oM,fun e=>⟨h2.1 oM,oe,fun a j A q v=>?_⟩,fun e=>by have:=h2.2 e.1;omega⟩;simp only[qzh,qzj,qzt]at q;rw[v,q]at j;exact h ((qc L b.s).2 j)
theorem QN{L h:List EI}(q:h.Perm L)(s:(L.map EI.b).Nodup)(v:h.Pairwise (fun x y=>x.b<=y.b)):h.Pairwise (fun x y=>x.b<y.b):=by
 have h1:(h.map EI.b).Nodup:=(q.map EI.b).nodup_iff.2 s;have h2:h.Pairwise (fun x y=>x.b≠y.b):=qXa.1 h1;exact(v.and h2).imp (fun j=>by have:=j.1;have:=j.2;omega)
theorem VJ{F:Int->Option EI}{L h:List EI}(j:Lists F L)(q:h.Perm L):Lists F h:=⟨(q.map EI.b).nodup_iff.2 j.1,fun e=>(q.mem_iff).trans (j.2 e)⟩
section
variable{own:Nat->Nat}{w:World}{c:Nat}{n:CaN}{p:CaP}{a:CaS}
theorem Yl(b:CaAt own w c n p a){h:Value}{l:List Int}(q:Rd w 1 h l.length (ints l))(s:∀x∈l,0<=x/\x<=2)(v:a.bP.length+l.length<=65536):
  Calls prog 87 #[ptr p.back,h] w (zx own w c n p {a with bP:=a.bP++l} (.int .i64 0)):=
 (zcc b.open3 (fun _ b=> .inr b) q s v).mono fun _ _ ⟨A,D,j⟩=>⟨A,_,b.turn3 j D rfl,b.did3 j⟩
theorem Wc(b:CaAt own w c n p a){h:Value}{l:List Int}(q:Rd w 1 h l.length (ints l))(s:∀x∈l,0<=x/\x<=2)(v:a.dP.length+l.length<=65536):
  Calls prog 87 #[ptr p.ssd,h] w (zx own w c n p {a with dP:=a.dP++l} (.int .i64 0)):=
 (zcc b.kC (fun _ b=> .inr b) q s v).mono fun _ _ ⟨A,D,j⟩=>⟨A,_,b.kz j D rfl,b.did2 j⟩
end
theorem JM{xs:List Value}(h:(prog.info? 107).map (·.size)=some xs.length):∃a b c d,xs=[a,b,c,d]:=by
 rw[wv]at h;injection h with h
 match xs,h with
 |[a,b,c,d],_=>exact⟨a,b,c,d,rfl⟩
theorem zaS:ZY 118:=by
 refine⟨fun _ _=>rfl,fun h a j hx b=>?_⟩;obtain⟨q,s,v,A,rfl⟩:=JM b;simp at hx;subst hx;go_enter func118,ntmps118
 go_wp2
 go_ret
 exact⟨rfl,(qxl _ _).alloc (qXp _) _⟩
theorem zdz{S:Nat->Prop}{w:World}{li lc lf d base b:Nat}{F:List Bk}{O:List (Nat×Bk)}(h:LgsZ S w li lc lf d base k F O)(E:1<=k)(q:O.length<65000)(j:b<=4096){f m:Int}(s:inS b f m):
  Calls prog 222 #[.pointer (some ⟨li,0,none⟩),.agg #[.int .i64 0,.int .i64 0,.int .i64 f,.int .i64 m]] w fun e w'=>e=.returned (.int .i64 0)/\Upd S w w':=by
 obtain⟨G,H,J,K⟩:=s;have v:mayI [0,0,f,m]=true:=Xh.2 ⟨⟨⟨oM,oM⟩,oM,oM⟩,oM,oM,oM,oM⟩;have A:curB F O (base+0)=zB:=h.zs 0 oM;exact(zdw (an:=0) h.i h.dv h.nS h.iS h.nib h.nibS zaS jl q [.int .i64 0,.int .i64 0,.int .i64 f,.int .i64 m] rfl wv (qt (0:Int).toNat (0:Int).toNat f.toNat m.toNat) (yT (by show 16<=59;decide)) oM (.inr A) (fun L D=>(Sz D 0 0 f m v).mono (fun e w' ⟨h,j⟩=>⟨_,0,⟨rfl,rfl⟩,h,j⟩))).mono fun _ _ h=>⟨h.1,h.2.2⟩
end Go.Proofs.YtbnpkobbnjihjaaGreatDoor
