/- A cache: what -/
import Derived.Test.YtbnpkobbnjihjaaGreatDoorG17
import Derived.Test.YtbnpkobbnjihjaaGreatDoorG18
set_option maxRecDepth 100000
set_option maxHeartbeats 1000000
namespace Go.Proofs.YtbnpkobbnjihjaaGreatDoor
open Go Go.RowKit Tryz
variable{n:CaN}{N s c:Nat}{k t:Int}{ps:List (Int×Bool)}{own:Nat->Nat}{w:World}{p:CaP}{l:List Int}
section
theorem zx.from{b:Nat->Nat}{h:World}{a:CaS}{v:Value}{f:FuncId}{args:Array Value}(j:Did b own h w)(q:Calls prog f args w (zx own w c n p a v)):Calls prog f args w (zx b h c n p a v):=
 q.mono fun _ _ ⟨A,D,E,F⟩=>⟨A,D,E,j.trans F⟩
structure CaS.Fit(a:CaS)(N:Nat):Prop where
 sm:∀k v,a.sums k=some v->v<=4294967295
 w1:∀q∈a.W,1<=q.1
 nx:a.next<=N
 iN:a.iN<=N
 kN:a.kN<=N
 mN:a.mN<=N
 dO:a.dO.length<=N
 bO:a.bO.length<=N
theorem CaS.Fit.mono{a:CaS}{M:Nat}(b:a.Fit N)(h:N<=M):a.Fit M:=
 ⟨b.sm,b.w1,qXr b.nx h,qXr b.iN h,qXr b.kN h,qXr b.mN h,qXr b.dO h,qXr b.bO h⟩
theorem CaS.Fit.fb{a:CaS}(h:a.Fit N):a.fb.Fit N:={h with bO:=qXr (wi _ _ _) h.bO}
theorem CaS.Fit.fd{a:CaS}(h:a.Fit N):a.fd.Fit N:={h with dO:=qXr (wi _ _ _) h.dO}
theorem zaW(F:List Bk)(O:List (Nat×Bk))(P:List Int)(L:List (Nat×Bk)):(saveR F O P L).O.length<=O.length+L.length:=by
 have h:=Jq F L O P;unfold saveR;split
 .exact qXr (wi _ _ _) h
 .exact h
theorem CaS.svR_O(n:CaN)(a:CaS):(a.svR n).O.length<=a.dO.length+n.pa:=by
 have:=zaW a.dF a.dO a.dP (ckO (1+(1-a.which)*n.pa) n.pa (pagesB (a.next-1) (a.ents n)))
 rwa[zau]at this
theorem CaS.Fit.ckpt{a:CaS}(b:a.Fit N):(a.ckpt n).1.Fit (N+n.pa):=by
 have h1:=b.fb;have h2:=h1.fd;have j:=a.fb.fd.svR_O n;have q:=h2.dO;unfold CaS.ckpt;split
 .exact h1.mono (qXo _ _)
 split
 .exact h2.mono (qXo _ _)
 split
 .exact {h2.mono (qXo N n.pa)with dO:=by show(a.fb.fd.svR n).O.length<=_;omega}
 .exact {h2.mono (qXo N n.pa)with dO:=(by show(a.fb.fd.svR n).O.length<=_;omega),w1:=fun v h=>by cases h}
def CaS.jX(n:CaN)(a:CaS):CaS×Int:=if a.next+1<=a.cov+n.jo then(a,0)else a.ckpt n
theorem CaS.Fit.jX{a:CaS}(h:a.Fit N):(a.jX n).1.Fit (N+n.pa):=by
 unfold CaS.jX;split
 .exact h.mono (qXo _ _)
 .exact h.ckpt
section
variable{own:Nat->Nat}{w w':World}{c:Nat}{n:CaN}{p:CaP}{a:CaS}{N:Nat}
theorem ta(h:CaAt own w c n p a)(q:a.Fit N)(G:N<=50000):
  Calls prog 276 #[ptr c] w (zx own w c n p (a.jX n).1 (.int .i64 (a.jX n).2)):=by
 by_cases b:a.next+1<=a.cov+n.jo
 .unfold CaS.jX;rw[if_pos b];exact XQ h b
 have v:=qqh (XL h);obtain⟨-,-,-,E,-,-,-,-,-⟩:=h.cells;have H:decide ((n.jo:Int)-((a.next:Int)-1-(a.cov:Int))>=2)=false:=by simp;omega
 have q1:¬(2:Int)<=(n.jo:Int)-((a.next:Int)-1-(a.cov:Int)):=oM;have A:=qqh q;unfold CaS.jX;rw[if_neg b];clear h b q;go_enter func276,ntmps276
 go_wp2_with fail
 refine v.o.mono ?_;rintro e w1 ⟨rfl,J,h1,D⟩;have F:=qqh (zx.from D (Yk h1 A.o.sm (by have:=A.o.dO;omega)));clear h1 D v E;generalize (n.jo:Int)-((a.next:Int)-1-(a.cov:Int))=r at*;go_wp2_with fail
 refine F.o.mono ?_;rintro e L ⟨rfl,j⟩;replace j:=qqh j;go_wp2
 go_ret
 exact⟨rfl,j.o⟩
end
theorem JT{next b h:Nat}(d:Bool)(h1:1<=next)(h2:next<=1099511627776)(_hjo:1<=b)(j:0<=k/\k<4096)(q:s<1024)(v:h<=4294967295):mayR (jaddX next b 0 k s d h)=true:=by
 have A:(next-1)/b<=next-1:=Nat.div_le_self _ _;unfold jaddX;generalize (next-1)/b=D at*;cases d
 all_goals simp[mayR,withinB,bndR,recX,inB,bitN]<;>omega
theorem Zl{next b:Nat}(h1:1<=next)(h2:next<=1099511627776)(_hjo:1<=b)(h:0<=k/\k<4096):mayR (jaddX next b 1 k 0 false 0)=true:=by
 have j:(next-1)/b<=next-1:=Nat.div_le_self _ _;unfold jaddX;generalize (next-1)/b=q at*;simp[mayR,withinB,bndR,recX,inB,bitN]<;>omega
open Go Go.RowKit Go.Shelf Tryz
attribute [local go_sem] qYb
def CaS.spareB(a:CaS):Bool:=a.K.any (cleanB a.ps)
theorem Tm(K:List Int)(A:Int->Bool):(kaL K A).map (·.1)=K:=by
 simp[kaL,Function.comp_def]
def SpX(ps:List (Int×Bool))(wz:World)(rb:Nat)(cc:Code)(pre:List It7)(W:World):Prop:=
 cc=.ret/\(∃x∈pre,cleanB ps x.1=true)/\Boxed W rb 4 (.bool true)/\Upd (fun j=>j=rb\/wz.heap.size<=j) wz W
theorem JU{a:CaS}(h:CaAt own w c n p a):
  Calls prog 417 #[ptr c] w fun e w'=>e=.returned (.bool a.spareB)/\Below w.heap.size w w':=by
 obtain⟨w1,T⟩:=qqe ((w.alloc (.cells #[ptr c] 88)).alloc (.cells #[.bool false] 4));have ah:Upd (fun _=>False) w w1:=by rw[T];exact((uur _ w).alloc _).alloc _
 have a6:w1.heap[w.heap.size]?=some (.cells #[ptr c] 88 (0,0)):=by rw[T];exact(qxk _ _ _ oe).trans (zc w _ rfl)
 have v:w1.heap[w.heap.size+1]?=some (.cells #[.bool false] 4 (0,0)):=by rw[T];exact zc _ _ oe
 have aN:w1.heap.size=w.heap.size+2:=by rw[T];simp
 have h1:=h.new ah;have aO:=h.clt;obtain⟨-,-,-,-,-,-,-,aC,-⟩:=h.cells;have ar:=qqh (Vs h1.ck);have ab:=Y4 h1 ah a6 v;clear h h1 ah a6 v;refine(callsIn_wide (n:=4)).1 ?_;refine callsIn_of_wp_marks func417 rfl trivial ?_ rfl;simp only[ntmps417,qXh,qyz,qzc,Nat.reduceAdd,Nat.reduceSub,qxi,qxj,qXb,qxx,qzu,qxy];refine wpIn_wide.2 ?_;go_wp2_with fail
 rw[<-T];clear T aC;refine ar.o.mono ?_;rintro e L ⟨aD,lb,rfl,O,au⟩;have aP:=au.size;have ai:Hid (Upd (fun _=>False) w1 L):=uuo au;have av:=qqh O;clear ar O;go_wp2_with fail
 refine(wpIn_wide (n:=4)).1 ?_
 refine' wpIn_rangeFunc_ownH rfl oM (gf:=aD) (lb:=lb) rfl trivial av.o.1
  (av.o.2 3 oM (fun j=>L.heap.size<=j) (fun j h=>h) _ (qxl _ _)) uf (fun b l o aE aw=>ww (M:=L.heap.size) (fun j h=>h) b l o aE aw) (qxl _ _) (fun _=>rfl)
  (fun U b=>Below L.heap.size L b/\∀x∈U,cleanB a.ps x.1=false)
  (SpX a.ps L (w.heap.size+1))
  (fun U aj ak am G O a7=>⟨ownFrom_below (β:=Unit) (qXp _) (qXp _) () aj ak am G.1 O a7,G.2⟩)
  (fun aF U aj ak am G O a7=>⟨G.1,G.2.1,(grownBy_keeps_cells O (fun r e=>(a7 r e).2) G.2.2.1 rfl).trans G.2.2.1,yI G.2.2.2 O (fun r e=> .inr (a7 r e).1)⟩)
  ⟨qxl _ _,fun x hx=>by cases hx⟩
  (fun x an _=>an=(_:It7->Act) x)
  (fun x an=>fun s aj ak am G O a7=>G)
  ?assign ?body ?done ?stop
 case assign=>
  rintro ax U x b K ⟨D,H⟩ E
  gi_wp2
  refine E _ _ (KeepsFrom.refl _ _) (uur _ _) ⟨D,H⟩ ?_;exact rfl
 case body=>
  rintro ax U x an b aw _ ⟨D,H⟩ rfl hlt;have q:Upd (fun _=>False) w1 b:=ai.o.trans (uuo D);obtain⟨h1,-,a6,v⟩:=ab.o;have ay:=rK (h1.new q) x.1;have az:=q.jV a6;have V:=q.jV v;have aG:=za az 0;have aA:=qqh ay;have aH:=Y3 D H V;clear h1 a6 v ay az V D H q
  gi_wp2_with fail
  refine⟨trivial,?_⟩;refine(CallsIn.inRound ax (callsIn_wide.2 aA.o)).mono ?_;rintro e ad ⟨rfl,J⟩;obtain⟨D,H,V⟩:=aH.o;have F:=(J.block _ (zd V)).trans V;have c2:=za F 0;have aQ:=zg F 0;have W:Below L.heap.size L ad:=D.trans (J.mono D.size);have X:KeepsOthers b ad:=⟨J.size,fun k o ae aR=>(J.block k (zd ae)).trans ae⟩
  have aI:=qqh H;have aB:=Y4 W X F J;clear D H V F W X J aA aG;rcases R:cleanB a.ps x.1 with _|_
  .have ao:=qqh R;clear R
   gi_wp2
   obtain⟨W,X,F,J⟩:=aB.o;refine⟨X.from _,uuo J,W,fun y hy=>?_⟩;rcases qzl.1 hy with hy|hy
   .exact aI.o y hy
   .simp at hy;subst hy;exact ao.o
  .have ao:=qqh R;clear R
   gi_wp2
   obtain⟨W,X,F,J⟩:=aB.o;have a8:=zi ad (w.heap.size+1) 0 (.bool true);refine⟨(X.trans (zA a8 (fun j aJ _=>⟨_,_,_,aJ▸F⟩))).from _,rfl,⟨x,oe,ao.o⟩,Boxed.set (.bool true) (show Boxed ad (w.heap.size+1) 4 (.bool false)from F),?_⟩;exact(uuo W).trans (a8.mono (fun _ _ h=> .inl h))
 case done=>
  rintro aa aS b af rfl ⟨D,H⟩ E;have q:Upd (fun _=>False) w1 b:=ai.o.trans (uuo D);have v:=q.jV ab.o.2.2.2;have c1:=za v 0;have aT:=zg v 0;have S:a.spareB=false:=by
   unfold CaS.spareB;rw[List.any_eq_false];intro k ae;have aK:k∈(kaL a.K a.A).map (·.1):=by rw[Tm];exact ae
   obtain⟨x,hx,rfl⟩:=qzq.1 aK;rw[H x hx];decide
  have ap:=Y5 S E q v af;clear S E q v H D af;go_wp2
  obtain⟨S,E,q,v,af⟩:=ap.o;have a8:=zi b (w.heap.size+1) 0 (.bool false);have aL:=zd E;have aM:(b.setCell ⟨w.heap.size+1,0,none⟩ (.bool false)).heap[aa]?=some (.deferred (some [])):=(a8.block aa aL oM).trans E;have F:=zh v 0 (.bool false);have Q:=wP (b.setCell ⟨w.heap.size+1,0,none⟩ (.bool false)) aa (.deferred none);have Y:=za ((Q.block _ (zd F) oM).trans F) 0;refine⟨oe,.inl ⟨_,_,rfl,run_takeDeferred aM,?_⟩⟩;refine⟨.bool false,by simp[results,results417,go_sem,Y],by rw[S],?_⟩;have Z:=(q.mono (S':=fun j=>w.heap.size<=j) (fun _ _ h=>h.elim)).trans ((a8.mono (fun j _ e=>oM)).trans (Q.mono (fun j _ e=>oM)));exact zj (qxl _ _) ((ab.o.2.1.mono (S':=fun j=>w.heap.size<=j) (fun _ _ h=>h.elim)).trans Z) (qXp _) (fun k h=>h)
 case stop=>
  rintro aa aF U b af S ⟨rfl,⟨x,hx,R⟩,aq,q⟩ E;have ag:a.spareB=true:=by
   unfold CaS.spareB;rw[List.any_eq_true];refine⟨x.1,?_,R⟩;rw[<-Tm a.K a.A];exact qzq.2 ⟨x,S.subset hx,rfl⟩
  have Z:Upd (fun j=>w.heap.size<=j) w b:=((ab.o.2.1.trans ai.o).mono fE).trans (q.mono (fun j _ h=>oM));have Q:=wP b aa (.deferred none);have Y:=za ((Q.block _ (zd aq) oM).trans aq) 0;have ap:=Y5 ag E Z Q Y;clear ag E Z Q Y aq q S hx R
  gi_wp2
  obtain⟨ag,E,Z,Q,Y⟩:=ap.o;refine⟨oe,.inl ⟨_,_,rfl,run_takeDeferred E,?_⟩⟩;refine⟨.bool true,by simp[results,results417,go_sem,Y],by rw[ag],?_⟩;exact zj (qxl _ _) (Z.trans (Q.mono (fun j _ e=>oM))) (qXp _) (fun k h=>h)
end
section
def CaS.ev(n:CaN)(a:CaS):CaS:={a with K:=(EvG.evR (cleanB a.ps) n.sl a.K a.A a.H).2.2.1,A:=(EvG.evR (cleanB a.ps) n.sl a.K a.A a.H).2.2.2.1,H:=(EvG.evR (cleanB a.ps) n.sl a.K a.A a.H).2.2.2.2}
def CaS.evK(n:CaN)(a:CaS):Int:=(EvG.evR (cleanB a.ps) n.sl a.K a.A a.H).1
def CaS.evC(n:CaN)(a:CaS):Int:=(EvG.evR (cleanB a.ps) n.sl a.K a.A a.H).2.1
theorem QO{q:Int->Bool}{K:List Int}(D:K≠[]):∀(g b:Nat) (j h:Int->Bool) (p:Nat),EvG.evGo q K g b j=some (p,h)->p<K.length/\q (K.getD p 0)=true/\h (K.getD p 0)=false/\∀x,h x=true->j x=true:=by
 have E:0<K.length:=List.length_pos_iff.2 D;intro g
 induction g with
 |zero=>intro b j h p e;cases e
 |succ g v=>
  intro b j h p e;simp only[EvG.evGo]at e;split at e
  .exact v _ _ _ _ e
  .next F=>
   split at e
   .next A=>
    obtain⟨h1,h2,G,H⟩:=v _ _ _ _ e;refine⟨h1,h2,G,fun x hx=>?_⟩;have:=H x hx;unfold updB at this;split at this
    .cases this
    .exact this
   .next A=>
    simp only[Option.some.injEq,qYe]at e;obtain⟨rfl,rfl⟩:=e;exact⟨qXu _ E,by simpa using F,by simpa using A,fun _ b=>b⟩
theorem evR_cases(b:Int->Bool)(j:Nat)(K:List Int)(h:Int->Bool)(G:List Int):
  ((EvG.evR b j K h G).2.1=14/\EvG.evR b j K h G=(0,14,K,h,G))\/
   ((EvG.evR b j K h G).2.1=0/\∃i q,∃F:i<K.length,EvG.evR b j K h G=(K[i],0,EvG.restK K i,q,EvG.trimG j (G++[K[i]]))/\b K[i]=true/\q K[i]=false):=by
 unfold EvG.evR;cases v:EvG.evGo b K (2*K.length) 0 h with
 |none=>exact .inl ⟨rfl,rfl⟩
 |some E=>
  obtain⟨p,q⟩:=E;by_cases A:K=[]
  .subst A;cases v
  .obtain ⟨h1,h2,D,-⟩:=QO A _ _ _ _ _ v;have e:K.getD p 0=K[p]:=by simp[h1]
   rw[e]at h2 D;refine .inr ⟨rfl,p,q,h1,?_,h2,D⟩;simp only[e]
theorem Zm(h:cleanB ps k=true):getC ps k=0:=by
 unfold cleanB at h;simp only[qxo,beq_iff_eq]at h;exact h.1
def CaS.j8(n:CaN):Nat->Nat->CaS->CaS×Nat×Int
 |0,g,a=>(a,g,0)
 |m+1,g,a=>
  if a.spareB=false then(a,g,0)
  else if(a.jX n).2≠0 then((a.jX n).1,g,(a.jX n).2)
  else if(a.jX n).1.evC n≠0 then((a.jX n).1.ev n,g,0)
  else if turnCode (a.jX n).1.st (getV (a.jX n).1.ps ((a.jX n).1.evK n)).1 3≠0 then(((a.jX n).1.ev n).left n ((a.jX n).1.evK n),g,turnCode (a.jX n).1.st (getV (a.jX n).1.ps ((a.jX n).1.evK n)).1 3)
  else CaS.j8 n m (g+1) (((a.jX n).1.ev n).left n ((a.jX n).1.evK n))
theorem CaS.Fit.ev{a:CaS}(h:a.Fit N):(a.ev n).Fit N:={h with}
theorem CaS.Fit.left{a:CaS}(h:a.Fit N)(h1:1<=a.next)(k:Int):(a.left n k).Fit (N+1):=
 {h.mono (qXq N)with
  nx:=by have:=h.nx;show a.next+1<=N+1;omega
  w1:=fun q b=>by
   rcases qzl.1 b with b|b
   .exact h.w1 q b
   .simp at b;subst b;exact h1
  sm:=fun x v j=>by
   simp only[xT]at j;split at j
   .cases j
   .exact h.sm x v j}
theorem CaS.ckpt_next(n:CaN)(a:CaS):(a.ckpt n).1.next=a.next/\(a.ckpt n).1.ps=a.ps:=by
 unfold CaS.ckpt
 repeat' split
 all_goals exact⟨rfl,rfl⟩
theorem CaS.ckpt_room{a:CaS}(b:(a.ckpt n).2=0)(h1:1<=a.next)(v:4<=n.jo):(a.ckpt n).1.next+1<=(a.ckpt n).1.cov+n.jo:=by
 unfold CaS.ckpt at*;split at b
 .next h=>exact absurd b h
 split at b
 .next h=>exact absurd b h
 split at b
 .next h=>exact absurd b h
 .next h2 j q=>
  rw[if_neg h2,if_neg j,if_neg q];show a.next+1<=(a.next-1)+n.jo;omega
theorem CaS.jY(n:CaN)(a:CaS):(a.jX n).1.next=a.next/\(a.jX n).1.ps=a.ps:=by
 unfold CaS.jX;split
 .exact ⟨rfl,rfl⟩
 .exact a.ckpt_next n
theorem CaS.ko{a:CaS}(h:(a.jX n).2=0)(h1:1<=a.next)(j:4<=n.jo):(a.jX n).1.next+1<=(a.jX n).1.cov+n.jo:=by
 unfold CaS.jX at*;split at h
 .next b=>rw[if_pos b];exact b
 .next b=>rw[if_neg b];exact CaS.ckpt_room h h1 j
section
variable{own:Nat->Nat}{w w':World}{c:Nat}{n:CaN}{p:CaP}{a:CaS}{N:Nat}
theorem CaAt.nx1(h:CaAt own w c n p a):1<=a.next:=by have:=h.jr.good.wl;omega
theorem zdA(h:CaAt own w c n p a):Calls prog 418 #[ptr p.ck,EvG.mayV (ptr c)] w (zx own w c n p (a.ev n) (.tuple #[.int .i64 (a.evK n),.int .i64 (a.evC n)])):=
 (QC h).mono fun e w' ⟨E,F,G,H,J,j,q,v,A,D⟩=>by
  have b:=q.2;refine⟨?_,v,?_,D⟩
  .rw [j,CaS.evK,CaS.evC,b]
  .rw [CaS.ev,b];exact A
theorem JV(h:CaAt own w c n p a)(ar:a.Fit N)(m:Nat)(aV:m<=1000)(au:N+m*(n.pa+1)<=50000):
  Calls prog 390 #[ptr c,.int .i64 (m:Int)] w (zx own w c n p (CaS.j8 n m 0 a).1 (.tuple #[.int .i64 ((CaS.j8 n m 0 a).2.1:Int),.int .i64 (CaS.j8 n m 0 a).2.2])):=by
 obtain⟨ag,ah⟩:=qqe (CaS.j8 n m 0 a);rw[<-ah];have U:=Y4 h ar au ah;have aW:=qqf;clear h ar au ah;go_enter func390,ntmps390
 go_wp2
 refine wp_scope_straight ?_;go_wp2
 refine wp_label ?_;go_wp2
 go_loopg[6] m (fun g i wr=>∃k:Nat,k+g=m/\i=.int .i64 k/\∃av ai,CaAt av wr c n p ai/\Did own av w wr/\ai.Fit (N+k*(n.pa+1))/\CaS.j8 n g k ai=ag)
 case atStart=>exact⟨0,oM,rfl,own,a,U.o.1,Did.refl U.o.1.far,by simpa using U.o.2.1,U.o.2.2.2.symm⟩
 case round=>
  obtain⟨k,aL,rfl,aw,a1,h1,ax,ay,R⟩:=hrel;have a7:k<m->(k+1)*(n.pa+1)<=m*(n.pa+1):=fun h=>qXv _ h;rw[Nat.succ_mul]at a7;have E:=Y4 h1 ax ay R;have aj:=qqh (JU h1);have a7:=qqh a7;clear h1 ax ay R;by_cases hlt:k<m
  .have az:Hid (N+(k+1)*(n.pa+1)<=50000):=by
    show _<=_;have h1:=a7.out hlt;have h2:=U.o.2.2.1;rw[Nat.succ_mul];omega
   have V:(k+1)*(n.pa+1)=k*(n.pa+1)+(n.pa+1):=Nat.succ_mul _ _;replace V:=qqh V;have S:CaS.j8 n (gk-1+1) k a1=ag:=by rw[show gk-1+1=gk by omega];exact E.o.2.2.2
   rw[CaS.j8]at S;replace S:=qqh S;go_wp2_with fail
   refine aj.o.mono ?_;rintro e aM ⟨rfl,aA⟩;have ak:=qqb aA;have h2:=E.o.1.new ak;have W:=E.o.2.1.trans (E.o.1.j3 ak);have a8:=E.o.2.2.1;have aX:Hid (w.heap.size<=aM.heap.size):=W.upd.size;clear ak aA E aj;cases aa:a1.spareB with
   |false=>
    have j:=S.out;rw[if_pos aa]at j;have v:=Y3 h2 W j;clear h2 W a8 aa j;go_wp2
    rw[qxq];go_ret2
    rw[<-v.o.2.2];exact⟨rfl,aw,v.o.1,v.o.2.1⟩
   |true=>
    have j:=S.out;rw[if_neg (by rw[aa];decide)]at j;clear S aa;have am:=qqh (zx.from W (ta h2 a8 (by have:=az.out;have:=V.out;omega)));have T:=h2.nx1;have aN:=h2.ok.j1;have H:=a8.jX (n:=n);have X:=fun h=>CaS.ko (a:=a1) (n:=n) h T aN;have an:=(a1.jY n).1;generalize a1.jX n=r at*;obtain⟨b,aB⟩:=r;simp only at am j H X an;have v:=Y4 j H X an;clear h2 W a8 j H X an T;go_wp2_with fail
    refine am.o.mono ?_;rintro e aY ⟨rfl,aO,J,ab⟩;clear am;by_cases D:aB=0
    rotate_left
    .have aC:(aB==0)=false:=by simpa using D
     have j:=v.o.1;rw[if_pos D]at j;have L:=Y3 J ab j;clear J ab j;go_wp2
     rw[qxq];go_ret2
     rw[<-L.o.2.2];exact⟨rfl,aO,L.o.1,L.o.2.1⟩
    subst D;have G:=v.o.1;rw[if_neg oe]at G;obtain⟨-,-,-,-,-,-,-,aP,-⟩:=J.cells;have aD:=qqh (zx.from ab (zdA J));have L:=Y4 G J.nx1 (evR_cases (cleanB b.ps) n.sl b.K b.A b.H) J.ok;clear J ab G;go_wp2_with fail
    refine aD.o.mono ?_;rintro e aZ ⟨rfl,aQ,M,Y⟩;obtain⟨F,O⟩:=qqe (b.evK n);obtain⟨aE,Q⟩:=qqe (b.evC n);rw[<-O,<-Q];have Z:=Y4 M Y O Q;clear M Y O Q aD aP;by_cases D:aE=0
    rotate_left
    .have aC:(aE==0)=false:=by simpa using D
     have q:=L.o.1;rw[<-Z.o.2.2.2,if_pos D]at q;replace q:=qqh q;go_wp2
     rw[qxq];go_ret2
     rw[<-q.out];exact⟨rfl,aQ,Z.o.1,Z.o.2.1⟩
    subst D;obtain⟨M,Y,O,Q⟩:=Z.o;obtain⟨G,T,ad,aF⟩:=L.o;rw[<-Q,if_neg oe,<-O]at G;have a6:getC (b.ev n).ps F=0:=by
     rcases ad with⟨ad,-⟩|⟨-,i,b0,b1,aR,aS,-⟩
     .have:b.evC n=14:=ad;rw[<-Q]at this;cases this
     .have:F=b.K[i]:=by rw[O,CaS.evK,aR]
      rw[this];exact Zm aS
    have aG:0<=F/\F<4096:=by
     have h1:=M.pl;have h2:=M.ok.b2;unfold getC at a6;split at a6
     .cases a6
     .omega
    have X:=v.o.2.2.1 oe;have H:=v.o.2.1;have ao:(b.ev n).next=b.next:=rfl;have aT:b.next<=50000:=qXr H.nx (by have:=az.out;have:=V.out;omega);have aH:=qqh (zx.from Y (XO M F a6 (by show b.next<=b.cov+n.jo;omega) (by rw[ao];omega) (by rw[ao];exact Zl T oM (by have:=aF.j1;omega) aG)));have f5:((b.ev n).left n F).Fit (N+k*(n.pa+1)+n.pa+1):=H.ev.left T F;have b3:=aL;generalize ae:turnCode (b.ev n).st (getV (b.ev n).ps F).1 3=ap at*;replace ae:turnCode b.st (getV b.ps F).1 3=ap:=ae;rw[ae]at G;have aq:=Y2 G f5;clear M Y O Q G T ad aF a6 aG X H ao aT f5 ae Z L v;go_wp2_with fail
    refine aH.o.mono ?_;rintro e b4 ⟨rfl,aI,aJ,aK⟩;have af:=Y2 aJ aK;clear aJ aK aH;by_cases D:ap=0
    rotate_left
    .have aC:(ap==0)=false:=by simpa using D
     have q:=aq.o.1;rw[if_pos D]at q;replace q:=qqh q;go_wp2
     rw[qxq];go_ret2
     rw[<-q.out];exact⟨rfl,aI,af.o.1,af.o.2⟩
    subst D;have q:=aq.o.1;rw[if_neg oe]at q;replace q:=qqh q;go_wp2
    go_roundg (gk-1)
    case measure=>omega
    case rel=>
     refine⟨k+1,oM,by go_num,aI,_,af.o.1,af.o.2,?_,q.out⟩;rw[V.out,<-qXl,<-qXl];exact aq.o.2
  .have R:=E.o.2.2.2;have aU:gk=0:=oM;rw[aU]at R;have j:(a1,k,(0:Int))=ag:=R;have v:=Y3 E.o.1 E.o.2.1 j;clear R j E aj;go_wp2
   rw[qxq];go_ret2
   rw[<-v.o.2.2];exact⟨rfl,aw,v.o.1,v.o.2.1⟩
end
def CaS.kt(n:CaN)(b:CaS)(s:Int):CaS×Int×Bool×Int:=
 if(b.jX n).2=0 then((b.jX n).1,s,true,0)else({(b.jX n).1 with st:=turnList (b.jX n).1.st s 3},0,false,(b.jX n).2)
def CaS.al(b:CaS):CaS:={b with st:=allocList b.st}
def CaS.take3(n:CaN)(b:CaS):CaS×Int×Bool×Int:=
 if(b.jZ n).2≠0 then((b.jZ n).1,0,false,(b.jZ n).2)
 else if allocCode (b.jZ n).1.st≠0 then((b.jZ n).1.al,0,false,0)else(b.jZ n).1.al.kt n (allocVal (b.jZ n).1.st)
def CaS.kv(n:CaN)(b:CaS):CaS×Int×Bool×Int:=if(pos b.st 3).length=0 then(b,0,false,0)else b.take3 n
def CaS.take1(n:CaN)(b:CaS):CaS×Int×Bool×Int:=
 if(pos b.st 3).length=0 then(if(CaS.j8 n 1 0 b).2.2≠0 then((CaS.j8 n 1 0 b).1,0,false,(CaS.j8 n 1 0 b).2.2)else(CaS.j8 n 1 0 b).1.kv n)else b.kv n
def CaS.j4(n:CaN)(a:CaS):CaS×Int×Bool×Int:=if allocCode a.st=0 then a.al.kt n (allocVal a.st)else a.al.take1 n
theorem zdB(base k:Nat)(F:List Bk)(O:List (Nat×Bk))(P:List Int)(W:List (Nat×Bk)):(comR base k F O P W).1.O.length<=O.length+W.length/\((comR base k F O P W).2=W\/(comR base k F O P W).2=[]):=by
 have h1:=wi F O P;have h2:=Vh base k (flushR F O P).F W (flushR F O P).O (flushR F O P).P;have b:=wi (comW base k (flushR F O P).F W (flushR F O P).O (flushR F O P).P).F (comW base k (flushR F O P).F W (flushR F O P).O (flushR F O P).P).O (comW base k (flushR F O P).F W (flushR F O P).O (flushR F O P).P).P;unfold comR;split
 .exact ⟨qXr h1 (qXo _ _),.inl rfl⟩
 split
 .exact ⟨by dsimp only;omega,.inl rfl⟩
 split
 .exact ⟨by dsimp only;omega,.inl rfl⟩
 .exact ⟨by dsimp only;omega,.inr rfl⟩
theorem CaS.Fit.cm{a:CaS}(h:a.Fit N)(q:a.W.length<=n.jo):(a.cm n).Fit (N+n.jo):=by
 obtain⟨h1,h2⟩:=zdB (1+2*n.pa) n.jo a.dF a.dO a.dP a.W;exact{h.mono (qXo N n.jo)with
  dO:=by have:=h.dO;show(comR (1+2*n.pa) n.jo a.dF a.dO a.dP a.W).1.O.length<=_;omega
  w1:=fun j b=>by
   replace b:j∈(comR (1+2*n.pa) n.jo a.dF a.dO a.dP a.W).2:=b;rcases h2 with e|e
   .rw [e]at b;exact h.w1 j b
   .rw [e]at b;cases b}
theorem CaS.Fit.jZ{a:CaS}(b:a.Fit N)(h:a.W.length<=n.jo):(a.jZ n).1.Fit (N+n.jo):=by
 have h1:=b.fb;have h2:=h1.cm (n:=n) h;unfold CaS.jZ;split
 .exact h1.mono (qXo _ _)
 split
 .exact h2
 .exact {h2 with}
theorem CaS.Fit.al{a:CaS}(h:a.Fit N):a.al.Fit N:={h with}
theorem CaS.Fit.turned{a:CaS}(h:a.Fit N)(l:List Int):({a with st:=l}:CaS).Fit N:={h with}
theorem CaS.Fit.kt{a:CaS}(h:a.Fit N)(s:Int):(a.kt n s).1.Fit (N+n.pa):=by
 unfold CaS.kt;split
 .exact h.jX
 .exact h.jX.turned _
section
variable{own:Nat->Nat}{w w':World}{c:Nat}{n:CaN}{p:CaP}{a:CaS}{N:Nat}
theorem CaAt.wl(h:CaAt own w c n p a):a.W.length<=n.jo:=by have h1:=h.jr.good.wl;have h2:=h.jr.good.room;omega
theorem JW(h:CaAt own w c n p a):Calls prog 388 #[ptr p.ss] w (zx own w c n p a.al (.tuple #[.int .i64 (allocVal a.st),.int .i64 (allocCode a.st)])):=Jm h
theorem CaS.Fit.j8{n:CaN}:∀(m g:Nat) {a:CaS} {N:Nat},a.Fit N->1<=a.next->(CaS.j8 n m g a).1.Fit (N+m*(n.pa+1))
 |0,g,a,N,h,_=>by simpa[CaS.j8]using h
 |m+1,g,a,N,h,h1=>by
  have b:=h.jX (n:=n);have q:=(a.jY n).1;have v:(m+1)*(n.pa+1)=m*(n.pa+1)+(n.pa+1):=Nat.succ_mul _ _;have j:(((a.jX n).1.ev n).left n ((a.jX n).1.evK n)).Fit (N+n.pa+1):=b.ev.left (by show 1<=(a.jX n).1.next;omega) _;simp only[CaS.j8];split
  .exact h.mono (qXo _ _)
  split
  .exact b.mono oM
  split
  .exact b.ev.mono oM
  split
  .exact j.mono oM
  .have:=CaS.Fit.j8 (n:=n) m (g+1) j (by show 1<=(a.jX n).1.next+1;omega);exact this.mono oM
theorem CaS.committed_next(n:CaN)(a:CaS):(a.jZ n).1.next=a.next/\(a.jZ n).1.ps=a.ps:=by
 unfold CaS.jZ
 repeat' split
 all_goals exact⟨rfl,rfl⟩
theorem Zcg20{P:Prop}(h:P:=by
  unfold CaS.take3 at b;have a7:=H.wl;have J:=D.o.1;have v:=qqh (zx.from W (wM H J.w1 (by have:=J.dO;omega)));have A:=J.jZ (n:=n) a7;generalize CaS.jZ n ai=r at*;obtain⟨X,a8⟩:=r;simp only at b v A;have E:=Y2 A b;clear H W b A J a7 D;go_wp2_with fail
  refine v.o.mono ?_;rintro e aJ ⟨rfl,ao,F,L⟩;have b:=E.o.2;clear v;by_cases j:a8=0
  rotate_left
  .have S:(a8==0)=false:=by simpa using j
   rw[if_pos j]at b;have q:=Y3 F L b;clear F L b;go_wp2
   go_ret3
   rw[q.o.2.2];exact⟨rfl,ao,q.o.1,q.o.2.1⟩
  subst j;rw[if_neg oe]at b;have R:=qqh (zx.from L (JW F));obtain⟨-,-,-,-,-,cS,-,-,-⟩:=F.cells;have q:=qqh b;clear F L b;go_wp2_with fail
  refine R.o.mono ?_;rintro e aK ⟨rfl,ap,M,O⟩;have b:=q.o;have A:=E.o.1.al;generalize allocVal X.st=aq at*;generalize allocCode X.st=aa at*;generalize X.al=ar at*;clear R cS E q;by_cases j:aa=0
  rotate_left
  .have S:(aa==0)=false:=by simpa using j
   rw[if_pos j]at b;have q:=Y3 M O b;clear M O b;go_wp2
   go_ret3
   rw[q.o.2.2];exact⟨rfl,ap,q.o.1,q.o.2.1⟩
  subst j;rw[if_neg oe]at b;unfold CaS.kt at b;have v:=qqh (zx.from O (ta M A oM));generalize Y:CaS.jX n ar=r at*;obtain⟨ay,cdR⟩:=r;simp only at b v;have E:=qqh b;clear M O b A Y;go_wp2_with fail
  refine v.o.mono ?_;rintro e aL ⟨rfl,au,G,Q⟩;have b:=E.o;clear v;by_cases j:cdR=0
  .subst j;rw[if_pos rfl]at b;have q:=Y3 G Q b;clear G Q b;go_wp2
   go_ret3
   rw[q.o.2.2];exact⟨rfl,au,q.o.1,q.o.2.1⟩
  .have S:(cdR==0)=false:=by simpa using j
   rw[if_neg j]at b;have T:=qqh (zx.from Q (xu G aq 3));obtain⟨-,-,-,-,-,cS,-,-,-⟩:=G.cells;have q:=qqh b;clear G Q b j;go_wp2_with fail
   refine T.o.mono ?_;rintro e aM ⟨rfl,av,ab,ad⟩;have U:=Y2 ab ad;clear ab ad T cS;go_wp2
   go_ret3
   rw[q.o];exact⟨rfl,av,U.o.1,U.o.2⟩):P:=h
theorem zaX(h:CaAt own w c n p a)(A:a.Fit N)(aP:N+2*n.pa+n.jo+1<=50000):
  Calls prog 344 #[ptr c] w (zx own w c n p (a.j4 n).1 (.tuple #[.int .i64 (a.j4 n).2.1,.bool (a.j4 n).2.2.1,.int .i64 (a.j4 n).2.2.2])):=by
 obtain⟨aQ,b⟩:=qqe (a.j4 n);rw[<-b];unfold CaS.j4 at b;have R:=qqh (JW h);obtain⟨-,-,-,-,-,cS,-,-,-⟩:=h.cells;have D:=Y3 A b h.nx1;clear h A b;go_enter func344,ntmps344
 go_wp2_with fail
 refine R.o.mono ?_;rintro e w1 ⟨rfl,aR,h1,ae⟩;have b:=D.o.2.1;have A:=D.o.1.al;have aw:1<=a.al.next:=D.o.2.2;generalize allocVal a.st=aD at*;generalize allocCode a.st=ax at*;generalize a.al=af at*;clear R cS D;by_cases j:ax=0
 .subst j;rw[if_pos rfl]at b;unfold CaS.kt at b;have v:=qqh (zx.from ae (ta h1 A oM));generalize Y:CaS.jX n af=r at*;obtain⟨ay,cdR⟩:=r;simp only at b v;have E:=qqh b;clear h1 ae b A Y;go_wp2_with fail
  refine v.o.mono ?_;rintro e aS ⟨rfl,aE,Z,ag⟩;have b:=E.o;clear v;by_cases j:cdR=0
  .subst j;rw[if_pos rfl]at b;have q:=Y3 Z ag b;clear Z ag b;go_wp2
   go_ret3
   rw[q.o.2.2];exact⟨rfl,aE,q.o.1,q.o.2.1⟩
  .have S:(cdR==0)=false:=by simpa using j
   rw[if_neg j]at b;have T:=qqh (zx.from ag (xu Z aD 3));obtain⟨-,-,-,-,-,cS,-,-,-⟩:=Z.cells;have q:=qqh b;clear Z ag b j;go_wp2_with fail
   refine T.o.mono ?_;rintro e aT ⟨rfl,aF,az,aA⟩;have U:=Y2 az aA;clear az aA T cS;go_wp2
   go_ret3
   rw[q.o];exact⟨rfl,aF,U.o.1,U.o.2⟩
 .have aG:(ax==0)=false:=by simpa using j
  rw[if_neg j]at b;unfold CaS.take1 at b;have v:=qqh (zx.from ae (rN h1 3));obtain⟨-,-,-,-,-,cS,-,-,-⟩:=h1.cells;have D:=Y3 A b aw;clear h1 ae A b j aw;go_wp2_with fail
  refine v.o.mono ?_;rintro e aU ⟨rfl,aV,h2,ah⟩;have b:=D.o.2.1;clear v cS;obtain⟨st,V⟩:=qqe ((pos af.st 3).length);rw[<-V]at b⊢;by_cases j:st=0
  .rw [if_pos j]at b;have q1:((st:Int)==0)=true:=by simpa using j
   have ak:=qqh (zx.from ah (JV h2 D.o.1 1 oM oM));have am:=CaS.Fit.j8 (n:=n) 1 0 D.o.1 D.o.2.2;generalize CaS.j8 n 1 0 af=r at*;obtain⟨ai,aW,aB⟩:=r;simp only at b am ak;have E:=Y2 am b;clear h2 ah b am V j D;go_wp2_with fail
   refine ak.o.mono ?_;rintro e aX ⟨rfl,aH,a6,aj⟩;have b:=E.o.2;clear ak;by_cases j:aB=0
   rotate_left
   .have aG:(aB==0)=false:=by simpa using j
    rw[if_pos j]at b;have q:=Y3 a6 aj b;clear a6 aj b;go_wp2
    go_ret3
    rw[q.o.2.2];exact⟨rfl,aH,q.o.1,q.o.2.1⟩
   subst j;rw[if_neg oe]at b;have A:=E.o.1;unfold CaS.kv at b;have v:=qqh (zx.from aj (rN a6 3));obtain⟨-,-,-,-,-,cS,-,-,-⟩:=a6.cells;have D:=Y2 A b;clear a6 aj A b E;go_wp2_with fail
   refine v.o.mono ?_;rintro e aI ⟨rfl,aC,H,W⟩;have b:=D.o.2;clear v cS;obtain⟨an,V⟩:∃st,st=(pos ai.st 3).length:=⟨_,rfl⟩
   rw[<-V]at b⊢;by_cases j:an=0
   .rw [if_pos j]at b;have S:((an:Int)==0)=true:=by simpa using j
    have q:=Y3 H W b;clear H W b V j;go_wp2
    go_ret3
    rw[q.o.2.2];exact⟨rfl,aC,q.o.1,q.o.2.1⟩
   rw[if_neg j]at b;have S:((an:Int)==0)=false:=by simpa using j
   clear V;exact Zcg20
  .rw [if_neg j]at b;have q1:((st:Int)==0)=false:=by simpa using j
   unfold CaS.kv at b;have v:=qqh (zx.from ah (rN h2 3));obtain⟨-,-,-,-,-,cS,-,-,-⟩:=h2.cells;rw[<-V]at b v;have D:=Y2 D.o.1 b;clear h2 ah b V;have aN:=qqh j;clear j;go_wp2_with fail
   refine v.o.mono ?_;rintro e aI ⟨rfl,aC,H,W⟩;have b:=D.o.2;have j:=aN.out;clear v cS;obtain⟨ai,aO⟩:=qqe (af);rw[if_neg j]at b;subst aO;exact Zcg20
end
theorem yN{b:Type}(l:List b)(i j:Nat)(x d:b):(l.set i x).getD j d=if i=j/\i<l.length then x else l.getD j d:=by
 simp only[qyf,qyo];by_cases h:i=j
 .subst h;by_cases q:i<l.length
  .simp [q]
  .simp [q]
 .simp [h]
abbrev plc(ps:List (Int×Bool))(k:Nat):Int×Bool:=ps.getD k (-1,false)
theorem xG{k:Nat}(h:k<ps.length):plc ps k=ps[k]:=by simp[plc,h]
structure TieL(bl sl:Nat)(ps:List (Int×Bool))(st:List Int)(K:List Int)(o:Option Nat):Prop where
 hpl:ps.length=bl
 hsl:st.length=sl
 good:Good ps sl
 live:∀k,k<bl->plc ps k≠(-1,false)->st.getD (plc ps k).1.toNat 0=2
 used:∀s,s<sl->st.getD s 0=2->∃k,k<bl/\(plc ps k).1=(s:Int)
 opn:∀s,s<sl->(st.getD s 0=1↔o=some s)
 rng:∀s,s<sl->0<=st.getD s 0/\st.getD s 0<=4
 olt:∀s,o=some s->s<sl
 kk:∀k:Int,k∈K↔getC ps k=0
 kd:K.Nodup
theorem vN(q:s<l.length)(b:stateB t=true)(j:mayB (l.getD s 0) t=true):turnCode l (s:Int) t=0/\turnList l (s:Int) t=l.set s t:=by
 have h:turnCode l (s:Int) t=0:=by
  unfold turnCode;rw[if_neg oM,if_neg (by rw[b];decide),qxs,if_neg (by rw[j];decide)]
 exact⟨h,by unfold turnList;rw[if_pos h,qxs]⟩
theorem yz:getC ps k=0↔∃m:Nat,m<ps.length/\k=(m:Int)/\plc ps m≠(-1,false):=by
 unfold getC;constructor
 .intro h;split at h
  .cases h
  .next j=>
   split at h
   .cases h
   .next b=>exact⟨k.toNat,oM,oM,b⟩
 .rintro ⟨m,h1,rfl,h2⟩;rw[if_neg oM,if_neg (by rw[qxs];exact h2)]
theorem qH{m:Nat}(h:m<ps.length)(b:plc ps m≠(-1,false)):getV ps (m:Int)=plc ps m:=by
 unfold getV;rw[if_neg oM,qxs,if_neg b]
section
variable{bl sl:Nat}{ps:List (Int×Bool)}{st K:List Int}{o:Option Nat}
theorem TieL.slot(h:TieL bl sl ps st K o){k:Nat}(j:k<bl)(q:plc ps k≠(-1,false)):∃s:Nat,s<sl/\(plc ps k).1=(s:Int)/\st.getD s 0=2:=by
 have b:k<ps.length:=by rw[h.hpl];exact j
 have h1:=(h.good.each k b).resolve_left (by rw[<-xG b];exact q);rw[<-xG b]at h1;have h2:=h.live k j q;exact⟨(plc ps k).1.toNat,oM,oM,h2⟩
theorem TieL.inj(b:TieL bl sl ps st K o){i j:Nat}(v:i<bl)(A:j<bl)(q:0<=(plc ps i).1)(h:(plc ps i).1=(plc ps j).1):i=j:=by
 have h1:i<ps.length:=by rw[b.hpl];exact v
 have h2:j<ps.length:=by rw[b.hpl];exact A
 rw[xG h1]at q h;rw[xG h2]at h;exact b.good.inj i j h1 h2 q h
theorem VK(pre:List Nat):∀(l:List Int),pre.Nodup->(∀k∈pre,k<l.length/\l.getD k 0=3)->∀s,(freeTo l pre).getD s 0=if s∈pre then 0 else l.getD s 0:=by
 induction pre with
 |nil=>intro l _ _ s;simp[freeTo]
 |cons x pre A=>
  intro l b h s;obtain⟨hx,D⟩:=h x oe;have E:=(vN (t:=0) hx de (by rw[D];decide)).2;have e:freeTo l (x::pre)=freeTo (l.set x 0) pre:=by simp only[freeTo,List.foldl_cons,E]
  rw[qzw]at b;rw[e,A (l.set x 0) b.2 (fun k v=>by
   obtain⟨h1,h2⟩:=h k (by simp[v]);refine⟨by simpa using h1,?_⟩;rw[yN,if_neg (fun(e:x=k/\x<l.length)=>b.1 (e.1▸v))];exact h2) s,yN]
  by_cases q:x=s
  .subst q;rw[if_neg b.1,if_pos ⟨rfl,hx⟩,if_pos oe]
  .rw [if_neg (fun(e:x=s/\x<l.length)=>q e.1)];have:s≠x:=fun e=>q e.symm;by_cases j:s∈pre
   .rw [if_pos j,if_pos (by simp[j])]
   .rw [if_neg j,if_neg (by simp[j,this])]
theorem Yo{x:Int}:s∈pos l x↔s<l.length/\l.getD s 0=x:=by
 simp[pos,xC,List.getD_eq_getElem?_getD]
theorem QP(l:List Int)(x:Int):(pos l x).Nodup:=List.nodup_range.filter _
theorem QQ(l:List Int)(s:Nat)(h:s<l.length):(freeTo l (pos l 3)).getD s 0=if l.getD s 0=3 then 0 else l.getD s 0:=by
 rw[VK _ _ (QP l 3) (fun k j=>Yo.1 j) s];by_cases b:l.getD s 0=3
 .rw [if_pos (Yo.2 ⟨h,b⟩),if_pos b]
 .rw [if_neg (fun e=>b (Yo.1 e).2),if_neg b]
theorem TieL.freed(h:TieL bl sl ps st K o):TieL bl sl ps (freeTo st (pos st 3)) K o:=by
 have b:∀s,s<sl->(freeTo st (pos st 3)).getD s 0=if st.getD s 0=3 then 0 else st.getD s 0:=fun s hs=>QQ st s jF
 exact{h with
  hsl:=by rw[rn];exact h.hsl
  live:=fun k j q=>by
   obtain⟨s,hs,v,h2⟩:=h.slot j q;rw[v,qxs,b s hs,h2];decide
  used:=fun s hs h2=>by
   rw[b s hs]at h2;split at h2
   .cases h2
   .exact h.used s hs h2
  opn:=fun s hs=>by
   rw[b s hs,<-h.opn s hs];split
   .next e=>rw[e];decide
   .rfl
  rng:=fun s hs=>by
   rw[b s hs];split
   .decide
   .exact h.rng s hs}
theorem TieL.turned(b:TieL bl sl ps st K o){v:Option Nat}(A:s<sl)(h2:st.getD s 0≠2)(D:t≠2)(E:0<=t/\t<=4)(F:∀r,r<sl->(if r=s then t=1 else o=some r)=(v=some r))(G:∀r,v=some r->r<sl):TieL bl sl ps (st.set s t) K v:=by
 have H:s<st.length:=by rw[b.hsl];exact A
 have q:∀r,(st.set s t).getD r 0=if r=s then t else st.getD r 0:=fun r=>by
  rw[yN];by_cases e:s=r
  .subst e;rw[if_pos ⟨rfl,H⟩,if_pos rfl]
  .rw [if_neg (fun x=>e x.1),if_neg (fun x=>e x.symm)]
 exact{b with
  hsl:=by rw[qze];exact b.hsl
  live:=fun k J L=>by
   obtain⟨r,h,M,j⟩:=b.slot J L;rw[M,qxs,q r,if_neg (fun(e:r=s)=>h2 (by rw[<-e];exact j))];exact j
  used:=fun r h j=>by
   rw[q r]at j;split at j
   .exact absurd j D
   .exact b.used r h j
  opn:=fun r h=>by
   rw[q r,<-F r h];split
   .exact Iff.rfl
   .exact b.opn r h
  rng:=fun r h=>by
   rw[q r];split
   .exact E
   .exact b.rng r h
  olt:=G}
theorem QR(h:t=2\/t=3\/t=4):mayB 1 t=true:=by rcases h with rfl|rfl|rfl<;>decide
theorem TieL.shut(h:TieL bl sl ps st K (some s))(ht:t=3\/t=4):turnCode st (s:Int) t=0/\TieL bl sl ps (turnList st (s:Int) t) K none:=by
 have hs:=h.olt s rfl;have h1:=(h.opn s hs).2 rfl;obtain⟨j,q⟩:=vN (l:=st) (s:=s) (t:=t) jF jt (by rw[h1];exact QR (.inr ht));refine⟨j,?_⟩;rw[q];refine h.turned hs (by rw[h1];decide) jt jt (fun r b=>?_) (fun r b=>by cases b);split
 .rcases ht with rfl|rfl<;>simp
 .next e=>simp;exact fun v=>e v.symm
theorem Wf(h:free l<l.length):l.getD (free l) 0=0:=by
 unfold free at h⊢;have:=List.findIdx_getElem (p:=(·==0)) (xs:=l) (w:=h);simp only[qyf,qyj h,Option.getD_some];simpa using this
theorem TieL.alloc(h:TieL bl sl ps st K none)(j:allocCode st=0):∃s:Nat,s<sl/\allocVal st=(s:Int)/\st.getD s 0=0/\TieL bl sl ps (allocList st) K (some s):=by
 unfold allocCode at j;split at j
 .next b=>
  have q:free st<sl:=by rw[<-h.hsl];exact b
  refine⟨free st,q,by unfold allocVal;rw[if_pos b],Wf b,?_⟩;refine h.turned q (by rw[Wf b];decide) de de (fun r v=>?_) (fun r v=>by cases v;exact q);split
  .next e=>subst e;simp
  .next e=>simp;exact fun A=>e A.symm
 .cases j
theorem um{st:List Int}(b:allocCode st≠0):allocList st=st:=by
 unfold allocCode at b;split at b
 .exact absurd rfl b
 .next h=>exact List.set_eq_of_length_le oM
theorem Yp(ps:List (Int×Bool))(k j:Nat)(x:Int×Bool)(b:k<ps.length):plc (ps.set k x) j=if j=k then x else plc ps j:=by
 rw[plc,yN];by_cases e:k=j
 .subst e;rw[if_pos ⟨rfl,b⟩,if_pos rfl]
 .rw [if_neg (fun x=>e x.1),if_neg (fun x=>e x.symm)]
theorem TieL.left(h:TieL bl sl ps st K o)(M:getC ps k=0){K':List Int}(R:K'.Nodup)(S:∀x,x∈K'↔x∈K/\x≠k):
  turnCode st (getV ps k).1 3=0/\TieL bl sl (dropL ps k) (turnList st (getV ps k).1 3) K' o:=by
 obtain⟨m,G,rfl,O⟩:=yz.1 M;have Q:m<bl:=by rw[<-h.hpl];exact G
 obtain⟨s,hs,H,h2⟩:=h.slot Q O;rw[qH G O,H];obtain⟨T,U⟩:=vN (l:=st) (s:=s) (t:=3) jF de (by rw[h2];decide);refine⟨T,?_⟩;have V:dropL ps (m:Int)=ps.set m (-1,false):=by unfold dropL;rw[if_pos M,qxs]
 rw[U,V];have hsl:s<st.length:=by rw[h.hsl];exact hs
 have D:∀r,(st.set s 3).getD r 0=if r=s then 3 else st.getD r 0:=fun r=>by
  rw[yN];by_cases e:s=r
  .subst e;rw[if_pos ⟨rfl,hsl⟩,if_pos rfl]
  .rw [if_neg (fun x=>e x.1),if_neg (fun x=>e x.symm)]
 have E:=fun b=>Yp ps m b (-1,false) G;exact{
  hpl:=by rw[qze];exact h.hpl
  hsl:=by rw[qze];exact h.hsl
  good:=h.good.drop m
  live:=fun b q j=>by
   rw[E b]at j⊢;by_cases e:b=m
   .rw [if_pos e]at j;exact absurd rfl j
   .rw [if_neg e]at j⊢;obtain⟨r,v,J,W⟩:=h.slot q j;rw[J,qxs,D r,if_neg (fun F=>e (h.inj q Q (by rw[J];omega) (by rw[J,H,F])))];exact W
  used:=fun r v A=>by
   rw[D r]at A;by_cases e:r=s
   .rw [if_pos e]at A;cases A
   .rw [if_neg e]at A;obtain⟨b,q,L⟩:=h.used r v A;refine⟨b,q,?_⟩;rw[E b,if_neg (fun F=>e ?_)]
    .exact L
    .subst F;rw[H]at L;exact(Int.ofNat.inj L).symm
  opn:=fun r v=>by
   rw[D r,<-h.opn r v];by_cases e:r=s
   .rw [if_pos e,e,h2];decide
   .rw [if_neg e]
  rng:=fun r v=>by
   rw[D r];split
   .decide
   .exact h.rng r v
  olt:=h.olt
  kk:=fun x=>by
   rw[S,h.kk,yz,yz];constructor
   .rintro ⟨⟨b,q,rfl,j⟩,X⟩;refine⟨b,by rw[qze];exact q,rfl,?_⟩;rw[E b,if_neg (fun e=>X (by rw[e]))];exact j
   .rintro ⟨b,q,rfl,j⟩;rw[E b]at j;rw[qze]at q;by_cases e:b=m
    .rw [if_pos e]at j;exact absurd rfl j
    .rw [if_neg e]at j;exact⟨⟨b,q,rfl,j⟩,fun F=>e oM⟩
  kd:=R}
theorem TieL.room(h:TieL bl sl ps st K (some s)):K.length<sl:=by
 have F:=h.olt s rfl;have h1:=(h.opn s F).2 rfl;have E:∀x∈K,∃r:Nat,r<sl/\(getV ps x).1=(r:Int)/\r≠s/\∃m:Nat,m<ps.length/\x=(m:Int)/\plc ps m≠(-1,false):=by
  intro x hx;obtain⟨m,v,rfl,D⟩:=yz.1 ((h.kk x).1 hx);obtain⟨r,q,b,h2⟩:=h.slot (by rw[<-h.hpl];exact v) D;exact⟨r,q,by rw[qH v D];exact b,(fun(e:r=s)=>by rw[e,h1]at h2;cases h2),m,v,rfl,D⟩
 have O:(s::K.map (fun x=>(getV ps x).1.toNat)).Nodup:=by
  rw[qzw];constructor
  .intro v;obtain⟨x,hx,e⟩:=qzq.1 v;obtain⟨r,q,b,Q,-⟩:=E x hx;rw[b,qxs]at e;exact Q e
  .have R:=h.kd;clear F h1;have S:∀A:List Int,A.Nodup->(∀x∈A,x∈K)->(A.map (fun x=>(getV ps x).1.toNat)).Nodup:=by
    intro A
    induction A with
    |nil=>intro _ _;exact qzx
    |cons x A T=>
     intro G H;rw[qzw]at G;rw[qzh,qzw];refine⟨fun v=>?_,T G.2 (fun y hy=>H y (by simp[hy]))⟩;obtain⟨y,hy,e⟩:=qzq.1 v;obtain⟨r,q,b,-,m,L,rfl,D⟩:=E x (H x oe);obtain⟨W,X,J,-,U,M,rfl,V⟩:=E y (H y (by simp[hy]));rw[b,J,qxs,qxs]at e;rw[qH L D]at b;rw[qH M V]at J;have:=h.inj (i:=m) (j:=U) (by rw[<-h.hpl];exact L) (by rw[<-h.hpl];exact M) (by rw[b];omega) (by rw[b,J,e]);exact G.1 (by rw[this];exact hy)
   exact S K R (fun x hx=>hx)
 have:=xz sl _ O (fun r q=>by
  rcases qzm.1 q with rfl|q
  .exact F
  .obtain ⟨x,hx,rfl⟩:=qzq.1 q;obtain⟨r,q,b,-⟩:=E x hx;rw[b,qxs];exact q)
 simp at this;omega
end
abbrev CaS.Tie(n:CaN)(a:CaS)(o:Option Nat):Prop:=TieL n.bl n.sl a.ps a.st a.K o
section
variable{n:CaN}{a:CaS}{o:Option Nat}
theorem CaS.Tie.ckpt(h:a.Tie n o):(a.ckpt n).1.Tie n o:=by
 unfold CaS.ckpt;split
 .exact h
 split
 .exact h
 split
 .exact h
 .exact TieL.freed h
theorem CaS.Tie.jX(h:a.Tie n o):(a.jX n).1.Tie n o:=by
 unfold CaS.jX;split
 .exact h
 .exact CaS.Tie.ckpt h
theorem CaS.Tie.jZ(h:a.Tie n o):(a.jZ n).1.Tie n o:=by
 unfold CaS.jZ;split
 .exact h
 split
 .exact h
 .exact TieL.freed h
theorem CaS.Tie.evLeft(j:a.Tie n o)(q:a.evC n=0):getC a.ps (a.evK n)=0/\turnCode a.st (getV a.ps (a.evK n)).1 3=0/\((a.ev n).left n (a.evK n)).Tie n o:=by
 rcases evR_cases (cleanB a.ps) n.sl a.K a.A a.H with⟨h1,-⟩|⟨-,i,L,F,v,G,-⟩
 .have:a.evC n=14:=h1;rw[this]at q;cases q
 .have D:a.evK n=a.K[i]:=by rw[CaS.evK,v]
  have b:=Zm G;rw[<-D]at b;have E:=EvG.restK_perm F;have h:(a.K[i]::EvG.restK a.K i).Nodup:=E.nodup_iff.2 j.kd;rw[qzw]at h;have:=TieL.left j b (K':=EvG.restK a.K i) h.2 (fun x=>by
   rw[D,<-E.mem_iff,qzm];constructor
   .intro hx;exact⟨.inr hx,fun e=>h.1 (e▸hx)⟩
   .rintro ⟨hx|hx,J⟩
    .exact absurd hx J
    .exact hx)
  refine⟨b,this.1,?_⟩;show TieL n.bl n.sl (dropL a.ps (a.evK n)) (turnList a.st (getV a.ps (a.evK n)).1 3) (EvG.evR (cleanB a.ps) n.sl a.K a.A a.H).2.2.1 o;rw[v];exact this.2
theorem CaS.Tie.evNo(b:a.Tie n o)(h:a.evC n≠0):(a.ev n).Tie n o:=by
 rcases evR_cases (cleanB a.ps) n.sl a.K a.A a.H with⟨-,j⟩|⟨h1,-⟩
 .show TieL n.bl n.sl a.ps a.st (EvG.evR (cleanB a.ps) n.sl a.K a.A a.H).2.2.1 o;rw[j];exact b
 .exact absurd h1 h
theorem CaS.Tie.j8{n:CaN}{o:Option Nat}:∀(m g:Nat) {a:CaS},a.Tie n o->(CaS.j8 n m g a).1.Tie n o
 |0,g,a,b=>b
 |m+1,g,a,b=>by
  have h:=CaS.Tie.jX b;simp only[CaS.j8];split
  .exact b
  split
  .exact h
  split
  .next j=>exact CaS.Tie.evNo h j
  .next j=>
   obtain⟨-,h2,q⟩:=CaS.Tie.evLeft h (Decidable.of_not_not j);split
   .exact q
   .exact CaS.Tie.j8 m (g+1) q
def CaS.TakeOk(n:CaN)(r:CaS×Int×Bool×Int):Prop:=
 (r.2.2.1=true/\r.2.2.2=0/\r.1.next+1<=r.1.cov+n.jo/\∃s:Nat,r.2.1=(s:Int)/\r.1.Tie n (some s))\/(r.2.2.1=false/\r.1.Tie n none)
theorem CaS.Tie.kt(h:a.Tie n (some s))(h1:1<=a.next)(j:4<=n.jo):CaS.TakeOk n (a.kt n (s:Int)):=by
 have b:=CaS.Tie.jX h;unfold CaS.kt;split
 .next q=>exact .inl ⟨rfl,rfl,CaS.ko q h1 j,s,rfl,b⟩
 .exact .inr ⟨rfl,(TieL.shut b (.inl rfl)).2⟩
theorem CaS.evicts_next(n:CaN):∀(m g:Nat) (a:CaS),a.next<=(CaS.j8 n m g a).1.next
 |0,g,a=>qXp _
 |m+1,g,a=>by
  have b:=(a.jY n).1;simp only[CaS.j8];split
  .exact qXp _
  split
  .show a.next<=(a.jX n).1.next;omega
  split
  .show a.next<=(a.jX n).1.next;omega
  split
  .show a.next<=(a.jX n).1.next+1;omega
  .have:=CaS.evicts_next n m (g+1) (((a.jX n).1.ev n).left n ((a.jX n).1.evK n));exact qXr (by show a.next<=(a.jX n).1.next+1;omega) this
theorem CaS.Tie.take3(j:a.Tie n none)(h1:1<=a.next)(q:4<=n.jo):CaS.TakeOk n (a.take3 n):=by
 have b:=CaS.Tie.jZ j;have D:=(a.committed_next n).1;unfold CaS.take3;split
 .exact .inr ⟨rfl,b⟩
 split
 .next h=>
  refine .inr ⟨rfl,?_⟩;show TieL n.bl n.sl (a.jZ n).1.ps (allocList (a.jZ n).1.st) (a.jZ n).1.K none;rw[um h];exact b
 .next h=>
  obtain⟨s,E,v,-,A⟩:=TieL.alloc b (Decidable.of_not_not h);rw[v];exact CaS.Tie.kt (a:=(a.jZ n).1.al) A (by show 1<=(a.jZ n).1.next;omega) q
theorem CaS.Tie.kv(b:a.Tie n none)(h1:1<=a.next)(h:4<=n.jo):CaS.TakeOk n (a.kv n):=by
 unfold CaS.kv;split
 .exact .inr ⟨rfl,b⟩
 .exact CaS.Tie.take3 b h1 h
theorem CaS.Tie.take1(h:a.Tie n none)(h1:1<=a.next)(b:4<=n.jo):CaS.TakeOk n (a.take1 n):=by
 have j:=CaS.Tie.j8 (n:=n) 1 0 h;have q:=CaS.evicts_next n 1 0 a;unfold CaS.take1;split
 .split
  .exact .inr ⟨rfl,j⟩
  .exact CaS.Tie.kv j oM b
 .exact CaS.Tie.kv h h1 b
theorem CaS.Tie.j4(h:a.Tie n none)(h1:1<=a.next)(j:4<=n.jo):CaS.TakeOk n (a.j4 n):=by
 unfold CaS.j4;split
 .next b=>
  obtain⟨s,A,q,-,v⟩:=TieL.alloc h b;rw[q];exact CaS.Tie.kt (a:=a.al) v h1 j
 .next b=>
  have:a.al.Tie n none:=by
   show TieL n.bl n.sl a.ps (allocList a.st) a.K none;rw[um b];exact h
  exact CaS.Tie.take1 this h1 j
theorem CaS.Fit.j4(h:a.Fit N)(h1:1<=a.next)(v:∀b:CaS,(b=a.al\/b=(CaS.j8 n 1 0 a.al).1)->b.W.length<=n.jo):(a.j4 n).1.Fit (N+2*n.pa+n.jo+1):=by
 have h2:∀{b:CaS} {j:Nat},b.Fit j->b.W.length<=n.jo->(b.kv n).1.Fit (j+n.jo+n.pa):=by
  intro b j A E;have q:=A.jZ (n:=n) E;unfold CaS.kv;split
  .exact A.mono oM
  .unfold CaS.take3;split
   .exact q.mono oM
   split
   .exact q.al.mono oM
   .exact q.al.kt _
 have D:=CaS.Fit.j8 (n:=n) 1 0 h.al h1;unfold CaS.j4;split
 .exact (h.al.kt _).mono oM
 .unfold CaS.take1;split
  .split
   .exact D.mono oM
   .exact (h2 D (v _ (.inr rfl))).mono oM
  .exact (h2 h.al (v _ (.inl rfl))).mono oM
end
section
variable{bl sl:Nat}{ps:List (Int×Bool)}{st K:List Int}{s k:Nat}
theorem TieL.putC(h:TieL bl sl ps st K (some s))(E:k<bl):putC ps sl (k:Int) (s:Int)=0:=by
 have v:=h.olt s rfl;have h1:=(h.opn s v).2 rfl;have F:=h.hpl;unfold Go.Proofs.YtbnpkobbnjihjaaGreatDoor.putC;rw[if_neg oM,if_pos]
 left
 cases A:atOf ps (s:Int)with
 |none=>rfl
 |some j=>
  obtain⟨-,q,b⟩:=yS A;have D:plc ps j≠(-1,false):=by
   rw[xG q];intro e;rw[e]at b;simp at b
  have h2:=h.live j oM D;rw[xG q,b,qxs,h1]at h2;cases h2
theorem TieL.put(h:TieL bl sl ps st K (some s))(F:k<bl)(d:Bool):
  ui ps sl (k:Int) (s:Int) d=ps.set k ((s:Int),d)/\uH ps sl (k:Int) (s:Int)=plc ps k/\turnCode st (s:Int) 2=0/\turnList st (s:Int) 2=st.set s 2/\
   (plc ps k=(-1,false)->(k:Int)∉K/\K.length≠sl/\TieL bl sl (ps.set k ((s:Int),d)) (st.set s 2) (K++[(k:Int)]) none)/\
   (plc ps k≠(-1,false)->(k:Int)∈K/\TieL bl sl (ps.set k ((s:Int),d)) (turnList (st.set s 2) (plc ps k).1 3) K none):=by
 have U:=h.putC F;have V:=h.olt s rfl;have h1:=(h.opn s V).2 rfl;have R:k<ps.length:=by rw[h.hpl];exact F
 have hsl:s<st.length:=by rw[h.hsl];exact V
 obtain⟨aa,ab⟩:=vN (l:=st) (s:=s) (t:=2) hsl de (by rw[h1];decide);have G:=fun b=>Yp ps k b ((s:Int),d) R;have H:∀r,(st.set s 2).getD r 0=if r=s then 2 else st.getD r 0:=fun r=>by
  rw[yN];by_cases e:s=r
  .subst e;rw[if_pos ⟨rfl,hsl⟩,if_pos rfl]
  .rw [if_neg (fun x=>e x.1),if_neg (fun x=>e x.symm)]
 have W:∀b,b<bl->plc ps b≠(-1,false)->(plc ps b).1≠(s:Int):=by
  intro b j A e;have:=h.live b j A;rw[e,qxs,h1]at this;cases this
 have X:Good (ps.set k ((s:Int),d)) sl:=by
  refine h.good.put R d oM oM ?_
  left
  cases ad:atOf ps (s:Int)with
  |none=>rfl
  |some b=>
   obtain⟨-,j,E⟩:=yS ad;refine absurd ?_ (W b (by rw[<-h.hpl];exact j) ?_)
   .rw [xG j];exact E
   .rw [xG j];intro e;rw[e]at E;simp at E
 have M:∀b,plc (ps.set k ((s:Int),d)) b≠(-1,false)↔(b=k\/plc ps b≠(-1,false)):=by
  intro b;rw[G b];by_cases e:b=k
  .rw [if_pos e];refine⟨fun _=> .inl e,fun _ v=>?_⟩;have:=congrArg Prod.fst v;simp at this
  .rw [if_neg e];exact⟨.inr,fun hx=>hx.resolve_left e⟩
 have Y:∀x:Int,getC (ps.set k ((s:Int),d)) x=0↔(x=(k:Int)\/getC ps x=0):=by
  intro x;rw[yz,yz];constructor
  .rintro ⟨b,j,rfl,A⟩;rw[qze]at j;rcases(M b).1 A with rfl|A
   .exact .inl rfl
   .exact .inr ⟨b,j,rfl,A⟩
  .rintro (rfl|⟨b,j,rfl,A⟩)
   .exact ⟨k,by rw[qze];exact R,rfl,(M k).2 (.inl rfl)⟩
   .exact ⟨b,by rw[qze];exact j,rfl,(M b).2 (.inr A)⟩
 refine⟨by unfold ui;rw[if_pos U,qxs],by unfold uH;rw[if_pos U,qxs],aa,ab,fun E=>?_,fun E=>?_⟩
 .have Z:(k:Int)∉K:=fun ae=>by
   obtain⟨m,ak,am,af⟩:=yz.1 ((h.kk k).1 ae);obtain rfl:k=m:=oM;exact af E
  refine⟨Z,by have:=h.room;omega,?_⟩;exact{
   hpl:=by rw[qze];exact h.hpl
   hsl:=by rw[qze];exact h.hsl
   good:=X
   live:=fun b j A=>by
    rw[G b];by_cases e:b=k
    .rw [if_pos e,qxs,H s,if_pos rfl]
    .rw [if_neg e];obtain⟨r,q,O,T⟩:=h.slot j (((M b).1 A).resolve_left e);rw[O,qxs,H r];split
     .rfl
     .exact T
   used:=fun r q h2=>by
    by_cases e:r=s
    .exact ⟨k,F,by rw[G k,if_pos rfl,e]⟩
    .rw [H r,if_neg e]at h2;obtain⟨b,j,J⟩:=h.used r q h2;refine⟨b,j,?_⟩;rw[G b,if_neg (fun v=>?_)]
     .exact J
     .rw [v,E]at J;simp at J
   opn:=fun r q=>by
    rw[H r];by_cases e:r=s
    .rw [if_pos e];simp
    .rw [if_neg e,h.opn r q];simp;exact fun v=>e v.symm
   rng:=fun r q=>by
    rw[H r];split
    .decide
    .exact h.rng r q
   olt:=fun r q=>by cases q
   kk:=fun x=>by
    rw[Y,qzl,qzt,h.kk];exact or_comm
   kd:=by
    rw[qzv];exact⟨h.kd,oe,fun x hx y hy e=>by simp at hy;subst hy;subst e;exact Z hx⟩}
 .have a6:(k:Int)∈K:=(h.kk k).2 (yz.2 ⟨k,R,rfl,E⟩);obtain⟨D,ag,S,ah⟩:=h.slot F E;have a7:D≠s:=fun e=>W k F E (by rw[S,e]);refine⟨a6,?_⟩;rw[S];have a8:D<(st.set s 2).length:=by rw[qze,h.hsl];exact ag
  have ai:(st.set s 2).getD D 0=2:=by rw[H D,if_neg a7];exact ah
  rw[(vN (l:=st.set s 2) (s:=D) (t:=3) a8 de (by rw[ai];decide)).2];have Q:∀r,((st.set s 2).set D 3).getD r 0=if r=D then 3 else if r=s then 2 else st.getD r 0:=fun r=>by
   rw[yN,H r];by_cases e:D=r
   .subst e;rw[if_pos ⟨rfl,a8⟩,if_pos rfl]
   .rw [if_neg (fun x=>e x.1),if_neg (fun(x:r=D)=>e x.symm)]
  exact{
   hpl:=by rw[qze];exact h.hpl
   hsl:=by rw[qze,qze];exact h.hsl
   good:=X
   live:=fun b j A=>by
    rw[G b];by_cases e:b=k
    .rw [if_pos e,qxs,Q s,if_neg (fun v=>a7 v.symm),if_pos rfl]
    .rw [if_neg e];have aj:=((M b).1 A).resolve_left e;obtain⟨r,q,O,T⟩:=h.slot j aj;rw[O,qxs,Q r,if_neg (fun v=>e (h.inj j F (by rw[O];omega) (by rw[O,S,v])))];split
     .rfl
     .exact T
   used:=fun r q h2=>by
    rw[Q r]at h2;by_cases L:r=D
    .rw [if_pos L]at h2;cases h2
    .rw [if_neg L]at h2;by_cases e:r=s
     .exact ⟨k,F,by rw[G k,if_pos rfl,e]⟩
     .rw [if_neg e]at h2;obtain⟨b,j,J⟩:=h.used r q h2;refine⟨b,j,?_⟩;rw[G b,if_neg (fun v=>?_)]
      .exact J
      .rw [v,S]at J;exact L oM
   opn:=fun r q=>by
    rw[Q r];by_cases L:r=D
    .rw [if_pos L];simp
    .rw [if_neg L];by_cases e:r=s
     .rw [if_pos e];simp
     .rw [if_neg e,h.opn r q];simp;exact fun v=>e v.symm
   rng:=fun r q=>by
    rw[Q r];split
    .decide
    .split
     .decide
     .exact h.rng r q
   olt:=fun r q=>by cases q
   kk:=fun x=>by
    rw[Y,h.kk];constructor
    .exact .inr
    .rintro (rfl|hx)
     .exact (h.kk _).1 a6
     .exact hx
   kd:=h.kd}
end
theorem CaS.Tie.put{a:CaS}{k:Nat}(q:a.Tie n (some s))(v:k<n.bl)(A:Nat)(d:Bool):putC a.ps n.sl (k:Int) (s:Int)=0/\(a.kh n (k:Int) s A d).2=0/\(a.kh n (k:Int) s A d).1.Tie n none:=by
 obtain⟨h1,h2,H,D,E,F⟩:=TieL.put q v d;refine⟨TieL.putC q v,?_⟩;by_cases b:plc a.ps k=(-1,false)
 .obtain ⟨h,j,G⟩:=E b;unfold CaS.kh;rw[h2,if_pos (by rw[b];exact⟨rfl,rfl⟩)];refine⟨by show addC n.sl a.K (k:Int)=0;unfold addC;rw[if_neg h,if_neg j],?_⟩;show TieL n.bl n.sl (ui a.ps n.sl (k:Int) (s:Int) d) (turnList a.st (s:Int) 2) (sD n.sl a.K (k:Int)) none;rw[h1,D,sD,if_neg (by intro e;rcases e with e|e;exact h e;exact j e)];exact G
 .obtain ⟨h,j⟩:=F b;unfold CaS.kh;rw[h2,if_neg (fun e=>b (Prod.ext e.1 e.2))];refine⟨by show touchC a.K (k:Int)=0;unfold touchC;rw[if_pos h],?_⟩;show TieL n.bl n.sl (ui a.ps n.sl (k:Int) (s:Int) d) (turnList (turnList a.st (s:Int) 2) (plc a.ps k).1 3) a.K none;rw[h1,D];exact j
theorem CaS.Tie.ky{a:CaS}{o:Option Nat}(b:a.Tie n o)(h:getC a.ps k=0):turnCode a.st (getV a.ps k).1 3=0/\touchC a.K k=0/\(a.ky n k).Tie n o:=by
 have j:=(b.kk k).2 h;have:=TieL.left b h (K':=a.K.erase k) (b.kd.erase k) (fun x=>by rw[b.kd.mem_erase_iff];exact and_comm);refine⟨this.1,by unfold touchC;rw[if_pos j],this.2⟩
theorem CaS.Tie.j7{a:CaS}(h:a.Tie n (some s))(b:Int)(x:Bk):((a.j7 n s b x).2=0/\(a.j7 n s b x).1.Tie n (some s))\/((a.j7 n s b x).2≠0/\(a.j7 n s b x).1.Tie n none):=by
 unfold CaS.j7;split
 .exact .inl ⟨rfl,h⟩
 .next j=>exact .inr ⟨j,(TieL.shut h (.inr rfl)).2⟩
def CaS.byp(n:CaN)(b:CaS)(k:Nat):CaS:=if getC b.ps (k:Int)=0 then b.ky n (k:Int)else b
def CaS.j6(n:CaN)(a:CaS)(k:Nat)(x:Bk):CaS×Int:=
 if(a.jX n).2≠0 then((a.jX n).1,(a.jX n).2)
 else if(writeR (a.jX n).1.bF (a.jX n).1.bO (a.jX n).1.bP k x).cd≠0 then((a.jX n).1.ki (writeR (a.jX n).1.bF (a.jX n).1.bO (a.jX n).1.bP k x),(writeR (a.jX n).1.bF (a.jX n).1.bO (a.jX n).1.bP k x).cd)
 else(((a.jX n).1.ki (writeR (a.jX n).1.bF (a.jX n).1.bO (a.jX n).1.bP k x)).byp n k,0)
section
variable{own:Nat->Nat}{w w':World}{c:Nat}{n:CaN}{p:CaP}{a:CaS}{N:Nat}
theorem JX(h:CaAt own w c n p a)(j:a.Fit N)(D:N<=50000)(q:a.Tie n none)(k:Nat)(v:a.next<=a.cov+n.jo):
  Calls prog 277 #[ptr c,.int .i64 (k:Int)] w (zx own w c n p (a.byp n k) (.int .i64 0)):=by
 by_cases b:getC a.ps (k:Int)=0
 .obtain ⟨h1,h2,-⟩:=q.ky b;have A:(k:Int)<4096:=by
   have h1:=h.pl;have h2:=h.ok.b2;obtain⟨m,E,e,-⟩:=yz.1 b;omega
  have:=Yg h (k:Int) b v (by have:=j.nx;omega) (Zl h.nx1 (by have:=j.nx;omega) (by have:=h.ok.j1;omega) ⟨oM,A⟩) h1;rw[h2]at this;unfold CaS.byp;rw[if_pos b];exact this
 .unfold CaS.byp;rw[if_neg b];exact XP h (k:Int) b
theorem CaS.Fit.byp(h:a.Fit N)(h1:1<=a.next)(k:Nat):(a.byp n k).Fit (N+1):=by
 unfold CaS.byp;split
 .exact {h.left h1 (k:Int)with}
 .exact h.mono oM
theorem CaS.Fit.bw(h:a.Fit N)(k:Nat)(x:Bk):(a.ki (writeR a.bF a.bO a.bP k x)).Fit (N+1):=
 {h.mono (qXq N)with bO:=by have h1:=vc a.bF a.bO a.bP k x;have h2:=h.bO;show(writeR a.bF a.bO a.bP k x).O.length<=_;omega}
theorem CaS.Fit.j6(h:a.Fit N)(h1:1<=a.next)(k:Nat)(x:Bk):(a.j6 n k x).1.Fit (N+n.pa+2):=by
 have b:=h.jX (n:=n);have q:=(a.jY n).1;have j:=b.bw k x;unfold CaS.j6;split
 .exact b.mono oM
 split
 .exact j.mono oM
 .exact (j.byp (n:=n) (by show 1<=(a.jX n).1.next;omega) k).mono oM
theorem CaS.Tie.byp{o:Option Nat}(b:a.Tie n o)(k:Nat):(a.byp n k).Tie n o:=by
 unfold CaS.byp;split
 .next h=>exact(CaS.Tie.ky b h).2.2
 .exact b
theorem CaS.Tie.j6(h:a.Tie n none)(k:Nat)(x:Bk):(a.j6 n k x).1.Tie n none:=by
 have b:=CaS.Tie.jX h;unfold CaS.j6;split
 .exact b
 split
 .exact b
 .exact CaS.Tie.byp (a:=(a.jX n).1.ki (writeR (a.jX n).1.bF (a.jX n).1.bO (a.jX n).1.bP k x)) b k
theorem Zn(h:CaAt own w c n p a)(U:a.Fit N)(aJ:N+n.pa+2<=50000)(ab:a.Tie n none)(k:Nat)(G:k<n.bl)(x:Bk)(hx:x.length=64):
  Calls prog 219 #[ptr c,.int .i64 (k:Int),.agg (bkC x).toArray] w (zx own w c n p (a.j6 n k x).1 (.int .i64 (a.j6 n k x).2)):=by
 obtain⟨w1,O⟩:=qqe (w.alloc (.cells (bkC x).toArray 54));have V:=qqu O;have q:=qqg O;obtain⟨m,W⟩:=qqe (w.heap.size);have A:own m=0:=h.far _ oM;rw[<-W]at q;have h1:=h.new V;have ad:=h.j3 V;have Q:=qqh (ta h1 U oM);obtain⟨aK,b⟩:=qqe (a.j6 n k x);rw[<-b];unfold CaS.j6 at b;have v:=U.jX (n:=n);have D:=CaS.Tie.jX ab;have ae:=(a.jY n).1;have af:=h.nx1;have j:=fun h=>CaS.ko (a:=a) (n:=n) h af (show 4<=n.jo by have:=h1.ok.j1;omega);generalize a.jX n=r at*;obtain⟨J,ag⟩:=r;simp only at Q b v D ae j;have ay:=Y9 A ad q hx b v D j G;have az:=qqh W;have aA:=qqh O;have aB:=underlying54;have aC:=zv x hx;clear h U hx V q h1 A W O ad b v D ae j af ab G;go_enter func219,ntmps219
 go_wp2_with fail
 rw[<-aA.o,<-az.o];refine Q.o.mono ?_;rintro e ah ⟨rfl,ai,h2,L⟩;obtain⟨A,X,q,hx,b,v,D,j,G⟩:=ay.o;have R:=X.trans L;by_cases E:ag=0
 rotate_left
 .have aD:(ag==0)=false:=by simpa using E
  rw[if_pos E]at b;have F:=Y3 h2 R b;clear h2 R b L X A q hx v D j G Q;go_wp2
  go_ret
  rw[F.o.2.2];exact⟨rfl,ai,F.o.1,F.o.2.1⟩
 subst E;rw[if_neg oe]at b;replace j:=j oe;obtain⟨-,aj,-,-,-,-,-,-,-⟩:=h2.cells;have Y:=L.upd.range (zf q) (fun h=>h.1 A);have ak:ai m=0:=(L.old m (zd q)).trans A;have Z:=(uur (fun _=>False) ah).drew;have am:=qqh (sH (h2.new Z) k (by rw[h2.gl];exact G) x hx (by have:=v.bO;omega));have aE:=v.bw k x;generalize aF:writeR J.bF J.bO J.bP k x=r at*;have H:=Y6 ak b aE D j (R.trans (h2.j3 Z));clear A X q hx h2 L ak Q R b v D j G Z aF;go_upto_region 4 with fail
 refine qZd (S:=fun an=>an.cell? ⟨c,15,none⟩=some (ptr p.back)/\an.rangeAt m 0 (bkC x)) kR (by(simp only[qYi,qYk]);exact⟨aj,Y⟩) (fun a6=>?_);refine Wl.i [0,1,2,3,4] ?_;iterate 5 refine Wl.t a6 ?_
 refine Wl.o ?_;refine Wl.l 5 (fun w h=>h.2) aB aC a6 ?_;refine Wl.r 6 (fun K M=>?_);go_simp
 refine am.out.mono ?_;rintro e aL ⟨rfl,aG,a7,a8⟩;obtain⟨-,ao,-,-,-,-,-,-,-⟩:=a7.cells;have ap:=a8.upd.range (show ah.drew.rangeAt m 0 (bkC x) by rw[qYk];exact Y) (fun h=>h.1 H.o.1);have T:=Y2 a7 (H.o.2.2.2.2.2.trans a8);clear a7 a8;refine M.o _ _ (⟨ao,ap⟩) (fun aq=>?_);clear M K;refine Wl.r 7 (fun K M=>?_);go_simp
 refine M.o _ _ (aq) (fun aH=>?_);clear M K;refine Wl.d ?_;clear a6 aq aH ao ap Y aj am;have b:=H.o.2.1;obtain⟨ar,aa⟩:=qqe (r.cd);rw[<-aa]at b⊢;by_cases E:ar=0
 rotate_left
 .have aD:(ar==0)=false:=by simpa using E
  rw[if_pos E]at b;have F:=qqh b;clear b aa;go_wp2
  go_ret
  rw[F.o];exact⟨rfl,aG,T.o.1,T.o.2⟩
 subst E;rw[if_neg oe]at b;have au:=qqh (zx.from T.o.2 (JX T.o.1 H.o.2.2.1 oM H.o.2.2.2.1 k (by have:=H.o.2.2.2.2.1;show J.next<=J.cov+n.jo;omega)));have F:=qqh b;clear b aa;go_wp2_with fail
 refine au.o.mono ?_;rintro e aM ⟨rfl,aI,av,aw⟩;have ax:=Y2 av aw;clear av aw au;go_wp2
 go_ret
 rw[F.o];exact⟨rfl,aI,ax.o.1,ax.o.2⟩
end
structure CaS.Jg(n:CaN)(a:CaS):Prop where
 wl:a.W.length+a.cov+1<=a.next
 room:a.next<=a.cov+n.jo+1
theorem CaAt.jg{a:CaS}(h:CaAt own w c n p a):a.Jg n:=⟨h.jr.good.wl,h.jr.good.room⟩
section
variable{n:CaN}{a:CaS}{N:Nat}
theorem CaS.Jg.len(h:a.Jg n):a.W.length<=n.jo:=by have:=h.wl;have:=h.room;omega
theorem CaS.Jg.ckpt(h:a.Jg n):(a.ckpt n).1.Jg n:=by
 have h1:=h.wl;have h2:=h.room;unfold CaS.ckpt;split
 .exact ⟨h1,h2⟩
 split
 .exact ⟨h1,h2⟩
 split
 .exact ⟨h1,h2⟩
 .exact ⟨by show 0+(a.next-1)+1<=a.next;omega,by show a.next<=(a.next-1)+n.jo+1;omega⟩
theorem CaS.Jg.jX(h:a.Jg n):(a.jX n).1.Jg n:=by
 unfold CaS.jX;split
 .exact h
 .exact h.ckpt
theorem CaS.Jg.left(b:a.Jg n)(h:a.next<=a.cov+n.jo)(k:Int):(a.left n k).Jg n:=by
 have h1:=b.wl;exact⟨by show(a.W++_).length+a.cov+1<=a.next+1;rw[qyy];simp;omega,by show a.next+1<=a.cov+n.jo+1;omega⟩
theorem CaS.Jg.j8{n:CaN}(j:4<=n.jo):∀(m g:Nat) {a:CaS},a.Jg n->1<=a.next->(CaS.j8 n m g a).1.Jg n
 |0,g,a,h,_=>h
 |m+1,g,a,h,h1=>by
  have b:=h.jX;have A:=(a.jY n).1;simp only[CaS.j8];split
  .exact h
  split
  .exact b
  split
  .exact ⟨b.wl,b.room⟩
  .next v _=>
   have D:=CaS.ko (Decidable.of_not_not v) h1 j;have q:(((a.jX n).1.ev n).left n ((a.jX n).1.evK n)).Jg n:=CaS.Jg.left (a:=(a.jX n).1.ev n) ⟨b.wl,b.room⟩ (by show(a.jX n).1.next<=(a.jX n).1.cov+n.jo;omega) _;split
   .exact q
   .exact CaS.Jg.j8 j m (g+1) q (by show 1<=(a.jX n).1.next+1;omega)
theorem CaS.Fit.takes'(h:a.Fit N)(b:a.Jg n)(h1:1<=a.next)(j:4<=n.jo):(a.j4 n).1.Fit (N+2*n.pa+n.jo+1):=
 h.j4 h1 (fun v q=>by
  rcases q with rfl|rfl
  .exact b.len
  .exact (CaS.Jg.j8 (a:=a.al) j 1 0 ⟨b.wl,b.room⟩ h1).len)
theorem CaS.Fit.j7(b:a.Fit N)(s:Nat)(h:Int)(x:Bk):(a.j7 n s h x).1.Fit (N+1):=by
 have h1:=vc a.dF a.dO a.dP (n.ke+s) x;have h2:=b.dO;unfold CaS.j7;split
 .exact {b.mono (qXq N)with dO:=by show(writeR a.dF a.dO a.dP (n.ke+s) x).O.length<=_;omega}
 .exact {b.mono (qXq N)with dO:=by show(writeR a.dF a.dO a.dP (n.ke+s) x).O.length<=_;omega}
theorem Zcg201{P:Prop}(h:P:=by
  exact {b.mono (qXq N)with sm:=D,w1:=E,nx:=by(show a.next+1<=N+1;omega),iN:=by(show a.iN+1<=N+1;omega),mN:=by(show a.mN+1<=N+1;omega),kN:=by(show a.kN+1<=N+1;omega)}):P:=h
theorem CaS.Fit.kh(b:a.Fit N)(h1:1<=a.next)(k:Int)(s j:Nat)(d:Bool)(F:j<=4294967295):(a.kh n k s j d).1.Fit (N+1):=by
 have D:∀x q,xT a.sums k (some j) x=some q->q<=4294967295:=fun x q v=>by
  simp only[xT]at v;split at v
  .cases v;exact F
  .exact b.sm x q v
 have E:∀A∈a.W++[(a.next,sectR (jaddX a.next n.jo 0 k s d j))],1<=A.1:=fun A h=>by
  rcases qzl.1 h with h|h
  .exact b.w1 A h
  .simp at h;subst h;exact h1
 have G:=b.nx;have H:=b.iN;have J:=b.mN;have L:=b.kN;unfold CaS.kh;split
 .exact Zcg201
 .exact Zcg201
end
def CaS.backS(n:CaN)(b:CaS)(k:Nat)(s:Nat)(x:Bk):CaS×Int:=
 if(b.j7 n s k x).2≠0 then((b.j7 n s k x).1,(b.j7 n s k x).2)else(((b.j7 n s k x).1.kh n k s (crcC x) true).1,0)
def CaS.kq(n:CaN)(a:CaS)(k:Nat)(x:Bk):CaS×Int:=
 if(a.j4 n).2.2.2≠0 then((a.j4 n).1,(a.j4 n).2.2.2)
 else if(a.j4 n).2.2.1=false then(a.j4 n).1.j6 n k x else(a.j4 n).1.backS n k (a.j4 n).2.1.toNat x
section
variable{own:Nat->Nat}{w w':World}{c:Nat}{n:CaN}{p:CaP}{a:CaS}{N:Nat}
theorem qe(n:CaN)(a:CaS)(s:Nat)(b:Int)(x:Bk):(a.j7 n s b x).1.next=a.next/\(a.j7 n s b x).1.cov=a.cov:=by
 unfold CaS.j7;split<;>exact⟨rfl,rfl⟩
theorem zaY(h:CaAt own w c n p a)(aa:a.Fit N)(D:N+3*n.pa+n.jo+4<=50000)(am:a.Tie n none)(k:Nat)(q:k<n.bl)(x:Bk)(hx:x.length=64):
  Calls prog 274 #[ptr c,.int .i64 (k:Int),.agg (bkC x).toArray] w (zx own w c n p (a.kq n k x).1 (.int .i64 (a.kq n k x).2)):=by
 obtain⟨w1,X⟩:=qqe (w.alloc (.cells (bkC x).toArray 54));have ab:=qqu X;have Q:=qqg X;obtain⟨m,ad⟩:=qqe (w.heap.size);have T:own m=0:=h.far _ oM;rw[<-ad]at Q;have h1:=h.new ab;have an:=h.j3 ab;have ae:=qqh (zaX h1 aa oM);obtain⟨aZ,b⟩:=qqe (a.kq n k x);rw[<-b];unfold CaS.kq at b;have ao:=h.ok.j1;have E:=aa.takes' h.jg h.nx1 ao;have V:=CaS.Tie.j4 am h.nx1 ao;generalize a.j4 n=r at*;obtain⟨ap,b0,b1,aq⟩:=r;simp only at ae b E;have aN:=Y9 T an Q hx b E V q D;have aO:=qqh ad;have aP:=qqh X;have ar:=underlying54;have au:=zv x hx;clear h aa hx ab Q h1 T ad X an b E V am q D;go_enter func274,ntmps274
 go_wp2_with fail
 rw[<-aP.o,<-aO.o];refine ae.o.mono ?_;rintro e aQ ⟨rfl,av,h2,Y⟩;obtain⟨T,aw,Q,hx,b,E,V,q,D⟩:=aN.o;have G:=aw.trans Y;have R:=Y.upd.range (zf Q) (fun h=>h.1 T);have H:av m=0:=(Y.old m (zd Q)).trans T;clear T aw Q Y ae;by_cases J:aq=0
 rotate_left
 .have aR:(aq==0)=false:=by simpa using J
  rw[if_pos J]at b;have j:=Y3 h2 G b;clear h2 G b hx E V q R H D;go_wp2
  go_ret
  rw[j.o.2.2];exact⟨rfl,av,j.o.1,j.o.2.1⟩
 subst J;rw[if_neg oe]at b;rcases V with⟨v,-,U,s,ax,L⟩|⟨v,L⟩
 rotate_left
 .simp only at v L;subst v;rw[if_pos rfl]at b;have af:=qqh (zx.from G (Zn h2 E oM L k q x hx));have j:=qqh b;clear h2 G b hx E L q H D;go_wp2_with (first
   |(refine qZa rfl _ _ rfl _ _ rfl _ _ R ar rfl au ?_)
   |fail)
  rw[<-j.o]at af;refine af.o.mono ?_;rintro e ay ⟨rfl,Z,M,S⟩;have az:=Y2 M S;clear M S af R;go_wp2
  go_ret
  exact⟨rfl,Z,az.o.1,az.o.2⟩
 simp only at v ax L U;subst v ax;rw[if_neg de,qxs]at b;unfold CaS.backS at b;have hsl:=L.olt s rfl;have ag:=qqh (zaJ h2 s hsl (k:Int) (.inr ⟨oM,oM⟩) x hx (by have:=E.dO;omega));have F:=E.j7 (n:=n) s (k:Int) x;have A:=CaS.Tie.j7 L (k:Int) x;have O:=qe n ap s (k:Int) x;generalize CaS.j7 n ap s (k:Int) x=r at*;obtain⟨aA,aS⟩:=r;simp only at ag b F A O;have aT:=Y12 G H b F A O U q hx h2.nx1 h2.ok D;clear h2 G H b F A O U q hx L E hsl D;go_wp2_with (first
  |(refine qZa rfl _ _ rfl _ _ rfl _ _ R ar rfl au ?_)
  |fail)
 refine ag.o.mono ?_;rintro e ay ⟨rfl,Z,M,a6⟩;obtain⟨G,H,b,F,A,O,U,q,hx,aB,v,D⟩:=aT.o;have S:=G.trans a6;have aC:=a6.upd.range R (fun h=>h.1 H);have b2:Z m=0:=(a6.old m (qYh aQ _ (R 0 _ (by rw[qyj (by rw[zn];omega)])))).trans H;clear R G H a6 ag;rcases A with⟨J,A⟩|⟨J,A⟩
 rotate_left
 .have aR:(aS==0)=false:=by simpa using J
  rw[if_pos J]at b;have j:=Y3 M S b;clear M S b F A O U q hx aB v D;go_wp2
  go_ret
  rw[j.o.2.2];exact⟨rfl,Z,j.o.1,j.o.2.1⟩
 subst J;rw[if_neg oe]at b;obtain⟨b3,a7⟩:=qqe (ay.alloc (.cells #[.slice (some ⟨m,0,none⟩) 64 64] 354));have a8:=qqu a7;have ah:=M.new a8;have aD:=a8.range aC id;have aE:=qqg a7;have aF:=qqh (qp (cl:=1) x ah.nib (za aE 0) aD hx oM oM);have ai:=CaS.Tie.put A q (crcC x) true;have aU:=F.nx;have aV:=A.olt s rfl;have aW:=ZE x;have aG:Hid (∀aj W,CaAt aj W c n p aA->Calls prog 346 #[ptr c,.int .i64 (k:Int),.int .i64 (s:Int),.int .i64 (crcC x:Int),.bool true] W (zx aj W c n p (aA.kh n (k:Int) s (crcC x) true).1 (.int .i64 0))):=by
  intro aj W aH;have b4:maxLen>=60000:=by simp only[maxLen];omega
  have:=zaT aH (k:Int) s (crcC x) true (by rw[O.1,O.2];omega) oM (JT true aH.nx1 oM (by have:=v.j1;omega) ⟨oM,by have:=v.b2;omega⟩ (by have:=v.s2;omega) oM) ai.1 (by have:=F.iN;omega) oM (by have:=F.mN;omega) (by have:=F.kN;omega);rw[ai.2.1]at this;exact this
 have j:=Y4 ah (S.trans (M.j3 a8)) b a7;clear M S b F A O U q hx aB v D a8 ah aD aE ai aU aV aW a7 aC;go_wp2_with fail
 rw[<-j.o.2.2.2];refine aF.o.mono ?_;rintro e W ⟨rfl,aI⟩;have ak:=qqb aI;have aJ:=qqh (zx.from (j.o.2.1.trans (j.o.1.j3 ak)) (aG.o _ _ (j.o.1.new ak)));have aX:=qqh j.o.2.2.1;clear ak aI aF aG j;go_wp2_with fail
 refine aJ.o.mono ?_;rintro e b5 ⟨rfl,aY,aK,aL⟩;have aM:=Y2 aK aL;clear aK aL aJ;go_wp2
 go_ret
 rw[aX.o];exact⟨rfl,aY,aM.o.1,aM.o.2⟩
end
def CaS.thruF(n:CaN)(b:CaS)(k:Nat)(s:Nat)(x:Bk):CaS×Int:=
 if(b.j7 n s k x).2≠0 then((b.j7 n s k x).1.byp n k,0)else(((b.j7 n s k x).1.kh n k s (crcC x) false).1,0)
def CaS.thruS(n:CaN)(b:CaS)(k:Nat)(s:Nat)(x:Bk):CaS×Int:=
 if(writeR b.bF b.bO b.bP k x).cd≠0 then({b.ki (writeR b.bF b.bO b.bP k x)with st:=turnList b.st (s:Int) 3},(writeR b.bF b.bO b.bP k x).cd)
 else(b.ki (writeR b.bF b.bO b.bP k x)).thruF n k s x
def CaS.thru(n:CaN)(a:CaS)(k:Nat)(x:Bk):CaS×Int:=
 if(a.j4 n).2.2.2≠0 then((a.j4 n).1,(a.j4 n).2.2.2)
 else if(a.j4 n).2.2.1=false then(a.j4 n).1.j6 n k x else(a.j4 n).1.thruS n k (a.j4 n).2.1.toNat x
def CaS.ku(n:CaN)(a:CaS)(k:Int)(x:Bk)(md:Int):CaS×Int:=
 if k<0\/(n.bl:Int)<=k then(a,10)else if md<0\/3<=md then(a,1)else if md=0 then a.kq n k.toNat x else if md=1 then a.thru n k.toNat x else a.j6 n k.toNat x
def CaS.gone(n:CaN)(a:CaS)(k:Int):CaS×Int:=if k<0\/(n.bl:Int)<=k then(a,10)else a.j6 n k.toNat zB
section
variable{own:Nat->Nat}{w w':World}{c:Nat}{n:CaN}{p:CaP}{a:CaS}{N:Nat}
theorem Wg(h:CaAt own w c n p a)(k:Int):Calls prog 217 #[ptr c,.int .i64 k] w fun e w'=>e=.returned (.bool (decide (0<=k)&&decide (k<(n.bl:Int))))/\w'=w:=by
 have q:=h.sup.2.1;clear h;by_cases b:0<=k
 .have j:decide (0<=k)=true:=by simpa using b
  go_enter func217,ntmps217
  go_wp2
  go_ret
  exact⟨by simp[b],rfl⟩
 .have j:decide (0<=k)=false:=by simpa using b
  go_enter func217,ntmps217
  go_wp2
  go_ret
  exact⟨oe,rfl⟩
abbrev fnV(f:Nat):Value:=.func (.func f) #[] #[]
theorem JY(w:World):Calls prog 218 #[] w fun e w'=>e=.returned (.agg #[fnV 274,fnV 275,fnV 219])/\Below w.heap.size w w':=by
 go_enter func218,ntmps218
 go_wp2
 have b:=zf (zc w (.cells [fnV 274,fnV 275,fnV 219].toArray 356) rfl);exact qYq (zq rfl _ _ w.heap.size 0 _ _ rfl b underlying356 rfl kR) rfl ⟨rfl,(qxl _ _).alloc (qXp _) _⟩
end
section
variable{own:Nat->Nat}{w w':World}{c:Nat}{n:CaN}{p:CaP}{a:CaS}{N:Nat}
theorem JZ(b:0<=k/\k<(n.bl:Int))(x:Bk):a.ku n k x 0=a.kq n k.toNat x:=by
 unfold CaS.ku;rw[if_neg oM,if_neg de,if_pos rfl]
theorem QS(h:CaAt own w c n p a)(v:a.Fit N)(A:N+3*n.pa+n.jo+6<=50000)(D:a.Tie n none)(k:Int)(a8:0<=k/\k<(n.bl:Int))(x:Bk)(hx:x.length=64):
  Calls prog 148 #[ptr c,.int .i64 k,.agg (bkC x).toArray,.int .i64 0] w (zx own w c n p (a.ku n k x 0).1 (.int .i64 (a.ku n k x 0).2)):=by
 obtain⟨w1,H⟩:=qqe (w.alloc (.cells (bkC x).toArray 54));have R:=qqu H;have j:=qqg H;obtain⟨m,T⟩:=qqe (w.heap.size);have aa:own m=0:=h.far _ oM;rw[<-T]at j;have h1:=h.new R;have E:=h.j3 R;have U:=qqh (Wg h1 k);obtain⟨aG,b⟩:=qqe (a.ku n k x 0);rw[<-b];unfold CaS.ku at b;have ar:=qqh T;have au:=qqh aa;have av:=qqh H;have aw:=underlying54;have ax:=zv x hx;have V:=Y8 h1 E j b v A D hx;clear h v A D hx R j aa h1 E b T H;rw[show(decide (0<=k)&&decide (k<(n.bl:Int)))=true by simp;omega]at U;have b:=V.o.2.2.2.1;rw[if_neg oM,if_neg de,if_pos rfl]at b;have ab:=qqh a8;replace b:=qqh b;clear a8;go_enter func148,ntmps148
 go_wp2_with fail
 rw[<-av.o];refine U.o.mono ?_;rintro e ay ⟨rfl,az⟩;subst az;clear U;go_wp2_with fail
 refine(JY ay).mono ?_;rintro e ad ⟨rfl,ae⟩;obtain⟨h1,E,j,-,v,A,D,hx⟩:=V.o;have W:=qqb ae;obtain⟨aA,J⟩:=qqe (ad.alloc (.cells #[fnV 274,fnV 275,fnV 219] 356));have af:=qqu J;have F:=qqg J;have L:=W.trans af;have M:=h1.new L;have X:=E.trans (h1.j3 L);have aB:=L.range (zf j) id;have Y:=(uur (fun _=>False) aA).drew;obtain⟨Z,a6⟩:=qqe (ad.heap.size);rw[<-a6]at F;have ag:=za F 0;have ah:=za F 1;have ai:=za F 2;simp at ag ah ai;have aj:=Y2 (M.new Y) (X.trans (M.j3 Y));have aH:=Y2 M X;have ak:=Y2 (h1.far Z (by have:=W.size;omega)) au.o;have q:=Y6 v A D hx J a6;clear h1 E j v A D hx ae ah ai W af F L M X Y V J a6;have a7:((k.toNat:Nat):Int)=k:=Int.toNat_of_nonneg ab.o.1;have aC:k.toNat<n.bl:=by have:=ab.o.2;omega
 have am:=qqh (zaY aj.o.1 q.o.1 (by have:=q.o.2.1;omega) q.o.2.2.1 k.toNat aC x q.o.2.2.2.1);rw[a7,<-b.out]at am;replace a7:=qqh a7;go_upto_region 8 with fail
 rw[<-q.o.2.2.2.2.1,<-q.o.2.2.2.2.2,<-ar.o];refine qZd (S:=fun an=>an.cell? ⟨Z,0,none⟩=some (fnV 274)/\an.rangeAt m 0 (bkC x)) kR (by(simp only[qYi,qYk]);exact⟨ag,aB⟩) (fun O=>?_);refine Wl.i [0,1,2,3,4] ?_;iterate 5 refine Wl.t O ?_
 refine Wl.o ?_;refine Wl.l 5 (fun w h=>h.2) aw ax O ?_;refine Wl.r 6 (fun K G=>?_);go_simp
 refine am.o.mono ?_;rintro e ao ⟨rfl,aD,ap,Q⟩;have aE:ao.cell? ⟨Z,0,none⟩=some (fnV 274)/\ao.rangeAt m 0 (bkC x):=⟨Q.upd.jU O.1 (fun h=>h.1 ak.o.1),Q.upd.range O.2 (fun h=>h.1 ak.o.2)⟩
 have aq:=Y2 ap (aj.o.2.trans Q);clear ap Q;refine G.o _ _ (aE) (fun aF=>?_);clear G K;refine Wl.r 7 (fun K G=>?_);go_simp
 refine G.o _ _ (aF) (fun aI=>?_);clear G K;refine Wl.d ?_;go_wp2
 go_ret
 exact⟨rfl,aD,aq.o.1,aq.o.2⟩
theorem QT{b:Int}(h:b=0)(j:CaAt own w c n p a)(q:a.Fit N)(v:N+3*n.pa+n.jo+6<=50000)(A:a.Tie n none)(k:Int)(D:0<=k/\k<(n.bl:Int))(x:Bk)(hx:x.length=64):
  Calls prog 148 #[ptr c,.int .i64 k,.agg (bkC x).toArray,.int .i64 b] w (zx own w c n p (a.ku n k x b).1 (.int .i64 (a.ku n k x b).2)):=by
 subst h;exact QS j q v A k D x hx
end
section
variable{own:Nat->Nat}{w w':World}{c:Nat}{n:CaN}{p:CaP}{a:CaS}{N:Nat}
theorem VL(h:CaAt own w c n p a)(E:a.Fit N)(F:N+n.pa+2<=50000)(G:a.Tie n none)(k:Int):
  Calls prog 149 #[ptr c,.int .i64 k] w (zx own w c n p (a.gone n k).1 (.int .i64 (a.gone n k).2)):=by
 have j:=qqh (Wg h k);have b:=Y4 h E F G;clear h E F G;obtain⟨M,q⟩:=qqe ((decide (0<=k)&&decide (k<(n.bl:Int))));rw[<-q]at j;cases M with
 |false=>
  have v:k<0\/(n.bl:Int)<=k:=by simp at q;omega
  have e:a.gone n k=(a,10):=by unfold CaS.gone;rw[if_pos v]
  rw[e];clear q v e;go_enter func149,ntmps149
  go_wp2_with fail
  refine j.o.mono ?_;rintro e O ⟨rfl,A⟩;subst A;clear j;go_wp2
  go_ret
  exact⟨rfl,own,b.o.1,Did.refl b.o.1.far⟩
 |true=>
  have v:0<=k/\k<(n.bl:Int):=by simpa using q.symm
  have e:a.gone n k=a.j6 n k.toNat zB:=by unfold CaS.gone;rw[if_neg oM]
  rw[e];have D:=qqh (Zn b.o.1 b.o.2.1 b.o.2.2.1 b.o.2.2.2 k.toNat oM zB rfl);rw[Int.toNat_of_nonneg v.1]at D;clear q v e;go_enter func149,ntmps149
  go_wp2_with fail
  refine j.o.mono ?_;rintro e O ⟨rfl,A⟩;subst A;clear j;go_wp2_with fail
  rw[zcA];refine D.o.mono ?_;rintro e R ⟨rfl,Q,H,J⟩;have L:=Y2 H J;clear H J D;generalize (bkC zB).toArray=S at*;go_wp2
  go_ret
  exact⟨rfl,Q,L.o.1,L.o.2⟩
end
def CaS.ldE(n:CaN)(a:CaS)(x:Ent):CaS:={a with iN:=a.iN+1,ps:=ui a.ps n.sl (x.b:Int) (x.s:Int) x.d,st:=turnList (turnList a.st (x.s:Int) 1) (x.s:Int) 2,G:=ZT (scrubG a.G x.s) x.s (x.b:Int),kN:=a.kN+1,K:=sD n.sl a.K (x.b:Int),A:=Qd n.sl a.K a.A a.H (x.b:Int),H:=Qe n.sl a.K a.H (x.b:Int),mN:=a.mN+1,sums:=xT a.sums (x.b:Int) (some x.m)}
def CaS.ldTo(n:CaN)(a:CaS)(L:List Ent):CaS:=L.foldl (CaS.ldE n) a
section
variable{n:CaN}{a:CaS}
theorem CaS.Tie.ldE(h:a.Tie n none)(x:Ent)(j:x.b<n.bl)(hs:x.s<n.sl)(q:a.st.getD x.s 0=0)(v:plc a.ps x.b=(-1,false)):
  putC a.ps n.sl (x.b:Int) (x.s:Int)=0/\uH a.ps n.sl (x.b:Int) (x.s:Int)=(-1,false)/\(a.ldE n x).Tie n none/\(a.ldE n x).ps=a.ps.set x.b ((x.s:Int),x.d)/\(a.ldE n x).st=a.st.set x.s 2:=by
 obtain⟨-,G⟩:=vN (l:=a.st) (s:=x.s) (t:=1) jF de (by rw[q];decide);have h1:TieL n.bl n.sl a.ps (a.st.set x.s 1) a.K (some x.s):=TieL.turned h hs (by rw[q];decide) de ⟨de,de⟩ (fun r A=>by
  by_cases e:r=x.s
  .subst e;simp
  .rw [if_neg e];have H:¬x.s=r:=fun h=>e h.symm;simp[H]) (fun r A=>by cases A;exact hs)
 obtain⟨D,J,R,L,M,-⟩:=TieL.put h1 j x.d;obtain⟨O,Q,E⟩:=M v;have F:(a.ldE n x).st=a.st.set x.s 2:=by
  show turnList (turnList a.st (x.s:Int) 1) (x.s:Int) 2=_;rw[G,L,List.set_set]
 refine⟨TieL.putC h1 j,J.trans v,?_,D,F⟩;show TieL n.bl n.sl (a.ldE n x).ps (a.ldE n x).st (a.ldE n x).K none;rw[F,show(a.ldE n x).ps=_ from D,show(a.ldE n x).K=a.K++[(x.b:Int)] by show sD n.sl a.K (x.b:Int)=_;unfold sD;rw[if_neg (by simp[O,Q])]];rw[List.set_set]at E;exact E
structure CaS.Ld(n:CaN)(a:CaS)(L:List Ent)(b:CaS):Prop where
 tie:b.Tie n none
 got:∀x∈L,plc b.ps x.b=((x.s:Int),x.d)/\b.sums (x.b:Int)=some x.m/\b.st.getD x.s 0=2
 blk:∀k:Nat,(∀x∈L,x.b≠k)->plc b.ps k=plc a.ps k/\b.sums (k:Int)=a.sums (k:Int)
 slt:∀s:Nat,(∀x∈L,x.s≠s)->b.st.getD s 0=a.st.getD s 0
 num:b.iN=a.iN+L.length/\b.kN=a.kN+L.length/\b.mN=a.mN+L.length
 oth:b.which=a.which/\b.dF=a.dF/\b.dO=a.dO/\b.dP=a.dP/\b.bF=a.bF/\b.bO=a.bO/\b.bP=a.bP/\b.cov=a.cov/\b.next=a.next/\b.W=a.W
theorem CaS.ldTo_ok:∀(L:List Ent) {a:CaS},a.Tie n none->(∀x∈L,x.b<n.bl/\x.s<n.sl)->(L.map (·.s)).Nodup->(L.map (·.b)).Nodup->(∀x∈L,a.st.getD x.s 0=0/\plc a.ps x.b=(-1,false))->CaS.Ld n a L (a.ldTo n L)
 |[],a,h,_,_,_,_=>⟨h,fun x hx=>(by cases hx),fun _ _=>⟨rfl,rfl⟩,fun _ _=>rfl,⟨rfl,rfl,rfl⟩,⟨rfl,rfl,rfl,rfl,rfl,rfl,rfl,rfl,rfl,rfl⟩⟩
 |x::L,a,h,H,v,A,J=>by
  obtain⟨M,O⟩:=H x qzo;obtain⟨W,X⟩:=J x qzo;obtain⟨-,-,Y,Z,a6⟩:=CaS.Tie.ldE h x M O W X;rw[qzh,qzw]at v A;have D:∀k,plc (a.ldE n x).ps k=if k=x.b then((x.s:Int),x.d)else plc a.ps k:=fun k=>by rw[Z,Yp _ _ _ _ (by rw[h.hpl];exact M)]
  have E:∀s,(a.ldE n x).st.getD s 0=if x.s=s then 2 else a.st.getD s 0:=fun s=>by
   rw[a6,yN];by_cases e:x.s=s
   .rw [if_pos ⟨e,by rw[h.hsl];exact O⟩,if_pos e]
   .rw [if_neg (fun a7=>e a7.1),if_neg e]
  have Q:∀k:Int,(a.ldE n x).sums k=if k=(x.b:Int)then some x.m else a.sums k:=fun k=>rfl
  have R:∀y∈L,y.b≠x.b:=fun y hy e=>A.1 (by rw[<-e];exact List.mem_map_of_mem hy);have S:∀y∈L,y.s≠x.s:=fun y hy e=>v.1 (by rw[<-e];exact List.mem_map_of_mem hy);have j:=CaS.ldTo_ok L Y (fun y hy=>H y (qzn _ hy)) v.2 A.2 (fun y hy=>by
   obtain⟨q1,q2⟩:=J y (qzn _ hy);exact⟨by rw[E,if_neg (fun e=>S y hy e.symm)];exact q1,by rw[D,if_neg (R y hy)];exact q2⟩)
  show CaS.Ld n a (x::L) ((a.ldE n x).ldTo n L);obtain⟨a8,aa,ab⟩:=j.num;refine⟨j.tie,fun y hy=>?_,fun k T=>?_,fun s U=>?_,⟨?_,?_,?_⟩,j.oth⟩
  .rcases qzm.1 hy with rfl|hy
   .obtain ⟨F,G⟩:=j.blk y.b (fun z q=>R z q);refine⟨?_,?_,?_⟩
    .rw [F,D,if_pos rfl]
    .rw [G,Q,if_pos rfl]
    .rw [j.slt y.s (fun z q=>S z q),E,if_pos rfl]
   .exact j.got y hy
  .obtain ⟨F,G⟩:=j.blk k (fun z q=>T z (qzn _ q));have V:=T x qzo;exact⟨by rw[F,D,if_neg (fun e=>V e.symm)],by rw[G,Q,if_neg (fun e=>V oM)]⟩
  .rw [j.slt s (fun z q=>U z (qzn _ q)),E,if_neg (U x qzo)]
  .rw [a8];show a.iN+1+L.length=_;rw[qyz];omega
  .rw [aa];show a.kN+1+L.length=_;rw[qyz];omega
  .rw [ab];show a.mN+1+L.length=_;rw[qyz];omega
theorem CaS.ldTo_sums:∀(L:List Ent) {a:CaS} {B:Nat},(∀x∈L,x.m<=B)->(∀k h,a.sums k=some h->h<=B)->∀k h,(a.ldTo n L).sums k=some h->h<=B
 |[],_,_,_,q=>q
 |x::L,a,B,v,q=>by
  refine CaS.ldTo_sums L (a:=a.ldE n x) (fun y hy=>v y (qzn _ hy)) (fun k h j=>?_);have A:(a.ldE n x).sums k=if k=(x.b:Int)then some x.m else a.sums k:=rfl
  rw[A]at j;split at j
  .cases j;exact v x qzo
  .exact q k h j
end
end
end Go.Proofs.YtbnpkobbnjihjaaGreatDoor
