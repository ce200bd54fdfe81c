/- Pages: Save. A -/
import Derived.Test.YtbnpkobbnjihjaaGreatDoorG11
import Derived.Test.YtbnpkobbnjihjaaGreatDoorG12
set_option maxRecDepth 100000
set_option maxHeartbeats 4000000
namespace Go.Proofs.YtbnpkobbnjihjaaGreatDoor
open Go Go.RowKit Tryz
variable{b k:Nat}{w:World}{F:List Bk}{O:List (Nat×Bk)}{P xs:List Int}{S T:Nat->Prop}
section
open Go Go.RowKit Go.Shelf Tryz
attribute [local go_sem] qYb
section
variable{own own':Nat->Nat}{w w':World}{c:Nat}{n:CaN}{p:CaP}{a:CaS}
def Box(own:Nat->Nat)(w:World)(b:Nat)(o:Obj):Prop:=w.heap[b]?=some o/\own b=0
theorem Box.did{o:Obj}(h:Box own w b o)(j:Did own own' w w'):Box own' w' b o:=
 ⟨(j.upd.block b (zd h.1) (fun q=>q.1 h.2)).trans h.1,(j.old b (zd h.1)).trans h.2⟩
theorem Box.new{o:Obj}(h:Box own w b o)(j:Upd (fun _=>False) w w'):Box own w' b o:=⟨j.jV h.1,h.2⟩
theorem Box.made(j:∀h,w.heap.size<=h->own h=0)(o:Obj):Box own (w.alloc o) w.heap.size o:=⟨zc w o rfl,j _ (qXp _)⟩
theorem CaAt.kf(h:CaAt own w c n p a)(s:Upd S w w')(D:∀j,S j->own j=0/\j≠1/\j≠0):CaAt own w' c n p a:=by
 have v:∀(k j:Nat),k≠0->own j=k->¬S j:=fun k j E q A=>E (q.symm.trans (D j A).1);exact{h with
  str:=(s.block c h.clt (v 1 c de h.oc)).trans h.str
  ssd:=h.ssd.keep s (fun j q=>v _ j de q)
  back:=h.back.keep s (fun j q=>v _ j de q)
  jr:=(Jn.kD _ _ _ _ _ _ _).keep h.jr s (fun j q=>v _ j de q)
  ix:=(Ix.kD _ _ _ _).keep h.ix s (fun j q=>v _ j de q)
  ss:=(Ss.kD _ _).keep h.ss s (fun j q=>v _ j de q)
  lg:=(Lg.kD _ _ _).keep h.lg s (fun j q=>v _ j de q)
  ck:=h.ck.keep s (fun j q=>v _ j de q)
  sm:=(Mp.kD _ _ _).keep h.sm s (fun j q=>v _ j de q)
  far:=fun j q=>h.far j (qXr s.size q)
  nib:=h.nib.keep s (fun A=>(D _ A).2.1 rfl)
  tur:=h.tur.keep s (fun A=>(D _ A).2.2 rfl)}
theorem Zi{o:Obj}{u:Value}{i:Nat}{h:Nat}(j:w.heap[b]?=some o)(q:o.isCells=false)(s:w.cell? ⟨h,i,none⟩=some u):b≠h:=by
 rintro rfl;cases o<;>simp[World.cell?,j,Obj.isCells]at s q
theorem wP(W:World)(l:Nat)(h:Obj):Upd (fun j=>j=l) W (W.putObj l h):=
 ⟨rfl,rfl,rfl,by simp[World.putObj],fun k _ q=>by
  simp only[World.putObj];rw[qxg (fun e=>q e.symm)]⟩
theorem CaAt.putObj(h:CaAt own w c n p a){o:Obj}(j:Box own w b o)(q:o.isCells=false)(s:Obj):CaAt own (w.putObj b s) c n p a:=
 h.kf (wP w b s) (fun v e=>by subst e;exact⟨j.2,Zi j.1 q (h.nib.c 0 de),Zi j.1 q h.tur.c0⟩)
theorem Did.putObj(h:Did own own' w w')(v:w.heap.size<=b)(j:Obj):Did own own' w (w'.putObj b j):=
 ⟨h.upd.new (wP w' b j) (fun i A e=>oM),h.old,h.new,fun q s=>h.far q (by simpa[World.putObj]using s)⟩
def zhb(n:CaN)(a:CaS)(E:List Ent):CaS:=
 {a with bF:=flushF a.bF a.bO,bO:=[],bP:=[],dF:=flushF (flushF a.dF a.dO) (ckO (1+(1-a.which)*n.pa) n.pa (pagesB (a.next-1) E)),dO:=[],dP:=[],which:=1-a.which,cov:=a.next-1,W:=[],st:=freeTo a.st (pos a.st 3)}
end
attribute [local go_sem] qYb
def wrsR(F:List Bk):List (Nat×Bk)->List (Nat×Bk)->List Int->DRes
 |[],O,P=>⟨F,O,P,0⟩
 |(s,y)::L,O,P=>if(writeR F O P s y).cd=0 then wrsR F L (writeR F O P s y).O (writeR F O P s y).P else writeR F O P s y
theorem rQ(F:List Bk)(L:List (Nat×Bk)):∀O P,(wrsR F L O P).F=F:=by
 induction L with
 |nil=>intro O P;rfl
 |cons x L h=>
  intro O P;simp only[wrsR];split
  .exact h _ _
  .exact yL _ _ _ _ _
theorem Jq(F:List Bk)(L:List (Nat×Bk)):∀O P,(wrsR F L O P).O.length<=O.length+L.length:=by
 induction L with
 |nil=>intro O P;simp[wrsR]
 |cons x L h=>
  intro O P;have h1:=vc F O P x.1 x.2;simp only[wrsR,qyz];split
  .have:=h (writeR F O P x.1 x.2).O (writeR F O P x.1 x.2).P;omega
  .omega
theorem wrsR_yes{x:Nat×Bk}{L:List (Nat×Bk)}(h:(writeR F O P x.1 x.2).cd=0):wrsR F (x::L) O P=wrsR F L (writeR F O P x.1 x.2).O (writeR F O P x.1 x.2).P:=by
 simp only[wrsR];exact if_pos h
theorem qG{x:Nat×Bk}{L:List (Nat×Bk)}(h:¬(writeR F O P x.1 x.2).cd=0):wrsR F (x::L) O P=writeR F O P x.1 x.2:=by
 simp only[wrsR];exact if_neg h
theorem QF(F:List Bk)(L:List (Nat×Bk))(s:Nat)(y:Bk):∀O P,wrsR F (L++[(s,y)]) O P=if(wrsR F L O P).cd=0 then writeR F (wrsR F L O P).O (wrsR F L O P).P s y else wrsR F L O P:=by
 induction L with
 |nil=>
  intro O P;simp only[qzu,wrsR,if_true];split
  .next h=>
   have j:=yL F O P s y;generalize writeR F O P s y=r at*;obtain⟨v,A,D,E⟩:=r;simp only at j h;subst j h;rfl
  .rfl
 |cons x L q=>
  intro O P;rw[qxy];by_cases h:(writeR F O P x.1 x.2).cd=0
  .rw [wrsR_yes h,wrsR_yes h];exact q _ _
  .rw [qG h,qG h,if_neg h]
theorem Jr(F:List Bk)(L j:List (Nat×Bk)):∀O P,(wrsR F L O P).cd≠0->wrsR F (L++j) O P=wrsR F L O P:=by
 induction L with
 |nil=>intro O P h;exact absurd rfl h
 |cons x L q=>
  intro O P;rw[qxy];by_cases h:(writeR F O P x.1 x.2).cd=0
  .rw [wrsR_yes h,wrsR_yes h];exact q _ _
  .rw [qG h,qG h];exact fun _=>rfl
theorem zaL{base m:Nat}(B:List Bk)(h:k<=m):∃j,ckO base m B=ckO base k B++j:=by
 refine⟨((List.range m).drop k).map (YN base B),?_⟩;rw[ckO,ckO,<-qzg]
 congr 1
 rw[show List.range k=(List.range m).take k by rw[List.take_range,Nat.min_eq_left h]];exact(qXi k _).symm
def PwI(T:Nat->Prop)(w5:World)(b:Nat)(F:List Bk)(O:List (Nat×Bk))(P:List Int)(base:Nat){m:Nat}(B:List Bk)(pre:List {i:Nat//i<m})(W:World):Prop:=
 (wrsR F (pre.map (fun x=>YN base B x.1)) O P).cd=0/\Dv T W b F (wrsR F (pre.map (fun x=>YN base B x.1)) O P).O (wrsR F (pre.map (fun x=>YN base B x.1)) O P).P/\Upd T w5 W
def PwX(T:Nat->Prop)(w5:World)(b:Nat)(F:List Bk)(O:List (Nat×Bk))(P:List Int)(base:Nat){m:Nat}(B:List Bk)(rb:Nat)(c:Code)(pre:List {i:Nat//i<m})(W:World):Prop:=
 c=.ret/\(wrsR F (pre.map (fun x=>YN base B x.1)) O P).cd≠0/\Dv T W b F (wrsR F (pre.map (fun x=>YN base B x.1)) O P).O (wrsR F (pre.map (fun x=>YN base B x.1)) O P).P/\Upd (fun j=>T j\/j=rb) w5 W/\
  W.heap[rb]?=some (.cells #[.int .i64 (wrsR F (pre.map (fun x=>YN base B x.1)) O P).cd] 34 (0,0))
theorem Js{q W E:World}{rb D:Nat}(Y:w.heap.size<=rb)(L:q.heap.size<=D)(_hw5:w.heap.size<=q.heap.size)(Z:rb<q.heap.size)
  (H:T=fun j=>(S j/\j<w.heap.size)\/q.heap.size<=j) (N:∀j,w.heap.size<=j->S j) (Q:Upd (fun _=>False) w q) (R:Dv T W b F O P) (U:Upd (fun j=>T j\/j=rb) q W) {v:Value}
  (J:W.heap[rb]?=some (.cells #[v] 34 (0,0))) (G:W.heap[D]?=some (.deferred (some []))) (V:E=W.putObj D (.deferred none)):
  E.cell? ⟨rb,0,none⟩=some v/\Dv S E b F O P/\Upd S w E:=by
 have a6:=zd G;have K:=ww (S:=fun j=>q.heap.size<=j) (M:=q.heap.size) (fun j h=>h) W D _ (.deferred none) L G rfl rfl;subst V;refine⟨za ((K.block _ (zd J) oM).trans J) 0,?_,?_⟩
 .have h2:=R.grown (grownBy_putObj' W D (.deferred none)) (fun r e=>by cases e;exact⟨_,G,rfl⟩);exact h2.wide (fun j A=>by
   rw[H]at A;rcases A with A|A
   .exact A.1
   .exact N j oM)
 .have X:Upd (fun j=>T j\/j=rb\/q.heap.size<=j) q (W.putObj D (.deferred none)):=(U.mono (fun j _ h=>h.imp id .inl)).trans (K.mono (fun _ _ h=> .inr (.inr h)));refine(Q.mono fE).new X (fun i a7 s=>?_);rcases s with s|s|s
  .rw [H]at s;rcases s with s|s
   .exact s.1
   .omega
  .omega
  .omega
theorem Zcg16{P:Prop}(h:P:=by
  refine⟨trivial,?_⟩;rw[show((base:Int)+(i:Int))=((base+i:Nat):Int) by simp,<-Q];clear Q aO b3 c2;refine(CallsIn.inRound l (callsIn_wide.2 bq.o.1)).mono ?_;rintro e aa ⟨rfl,J,s⟩;have bs:w.heap.size+1<aa.heap.size:=by have:=s.size;have:=zd N.o.1;have:=L.o.2.2.2.2.2.2.2.2.2.2;omega
  have R:aa.heap[w.heap.size+1]?=some (.cells #[.int .i64 0] 34):=by
   have D:=N.o.1;have av:=zd D;refine(s.block _ (by have:=L.o.2.2.2.2.2.2.2.2.2.2;omega) (fun G=>?_)).trans (L.o.2.2.2.2.2.2.2.2.2.1.jV D);rcases G with G|G
   .exact X _ oM oM (L.o.2.2.2.2.2.2.1 _ G)
   .have:=L.o.2.2.2.2.2.2.2.2.2.2;omega
  have bt:=zg R 0;have bR:=za R 0;have aQ:=Y3 J s R;clear J s R;rw[<-ag.out];by_cases H:ao=0
  .have b5:=qqh (H▸ag.out:0=r.cd);subst H
   gi_wp2
   obtain⟨K,A,hsl,hy,an,aw,V,af,Q,U,aG⟩:=L.o;obtain⟨J,s,R⟩:=aQ.o;have b6:=A.size;have ay:KeepsOthers v ax:=by rw[Q];exact KeepsOthers.alloc v _
   have aj:Upd T v aa:=(U.mono fE).trans (s.mono (fun j _ q=>q.elim (fun h=>V j h) (fun h=>a6 j oM)));refine⟨ay.trans (zA s (fun j q av=>?_)),aj,?_,?_,A.trans aj⟩
   .rcases q with q|q
    .obtain ⟨cs,t,z,H⟩:=af j q;exact⟨cs,t,z,U.jV H⟩
    .omega
   .rw [N.o.2.1];exact b5.o.symm
   .rw [N.o.2.1];have:=J.wide (T:=T) (fun j q=>q.elim (fun h=>V j h) (fun h=>a6 j oM));rw[N.o.2.2]at this;exact this
  .have bS:(ao==0)=false:=by simpa using H
   gi_wp2
   obtain⟨K,A,hsl,hy,an,aw,V,af,Q,U,aG⟩:=L.o;obtain⟨J,s,R⟩:=aQ.o;have b6:=A.size;have ay:KeepsOthers v ax:=by rw[Q];exact KeepsOthers.alloc v _
   have aj:Upd T v aa:=(U.mono fE).trans (s.mono (fun j _ q=>q.elim (fun h=>V j h) (fun h=>a6 j oM)));have ab:=zi aa (w.heap.size+1) 0 (.int .i64 ao);have b7:¬T (w.heap.size+1):=X _ oM (by have:=aF.o.2.2.2.2.1;have:=zd this;omega);refine⟨(ay.trans (zA s (fun j q av=>?_))).trans (zA ab (fun j q _=>⟨_,_,_,q▸R⟩)),rfl,?_,?_,?_,?_⟩
   .rcases q with q|q
    .obtain ⟨cs,t,z,H⟩:=af j q;exact⟨cs,t,z,U.jV H⟩
    .omega
   .rw [N.o.2.1,<-ag.out];exact H
   .rw [N.o.2.1];have:=J.wide (T:=T) (fun j q=>q.elim (fun h=>V j h) (fun h=>a6 j oM));rw[N.o.2.2]at this;exact this.keep ab (fun j q e=>b7 (e▸q))
   .exact ((A.trans aj).mono (fun _ _ h=> .inl h)).trans (ab.mono (fun _ _ h=> .inr h))
   .rw [N.o.2.1,<-ag.out];exact zh R 0 (.int .i64 ao)):P:=h
theorem zaM(ap:Dv S w b F O P)(aR:∀j,w.heap.size<=j->S j)(base m seq:Nat)(bd:Option Addr)(n lc:Nat)(E:List Ent)(bA:E.length=n)(aI:needN n<=m)(bB:n<=100000)
  (bC:base+m<=F.length) (bZ:O.length+m<65536) (aS:∀v,Below w.heap.size w v->Calls prog 98 #[.int .i64 (seq:Int),.slice bd n lc] v (xx v seq E)):
  Calls prog 59 #[.pointer (some ⟨b,0,none⟩),.int .i64 (base:Int),.int .i64 (m:Int),.int .i64 (seq:Int),.slice bd n lc] w (AB S w b (wrsR F (ckO base m (pagesB seq E)) O P)):=by
 subst bA;have bD:1<=m:=by unfold needN at aI;omega
 have c0:=ap.good.fl;have q1:decide (m<needN E.length)=false:=by simp;omega
 obtain⟨aq,ar⟩:=qqe ((w.alloc (.cells #[.pointer (some ⟨b,0,none⟩)] 31)).alloc (.cells #[.int .i64 0] 34));have s:Upd (fun _=>False) w aq:=by rw[ar];exact((uur _ w).alloc _).alloc _
 have J:=ap.new s;have aT:Below w.heap.size w aq:=Upd.below s;have b1:aq.heap.size=w.heap.size+2:=by rw[ar];simp
 have aJ:aq.heap[w.heap.size]?=some (.cells #[.pointer (some ⟨b,0,none⟩)] 31):=by
  rw[ar];exact(qxk _ _ _ oe).trans (zc w _ rfl)
 have ak:aq.heap[w.heap.size+1]?=some (.cells #[.int .i64 0] 34):=by
  rw[ar];exact zc _ _ oe
 have aK:=Y11 ap aR True.intro aI aS s J aT b1 aJ ak;clear ap aR aI aS s aT b1 aJ ak;refine(callsIn_wide (n:=3)).1 ?_;refine callsIn_of_wp_marks func59 rfl trivial ?_ rfl;simp only[ntmps59,qXh,qyz,qzc,Nat.reduceAdd,Nat.reduceSub,qxi,qxj,qXb,qxx,qzu,qxy]
 gi_wp2_with (first
  |(refine⟨trivial,?_⟩;gi_at_call 97;rw[<-ar];refine(callsIn_wide.2 (Sj J base m bD bC)).mono ?_;rintro e w' ⟨rfl,rfl⟩)
  |(refine⟨trivial,?_⟩;gi_at_call 22;refine(callsIn_wide.2 (rH E.length bB _)).mono ?_;rintro e w' ⟨rfl,rfl⟩)
  |fail)
 refine⟨trivial,?_⟩;rw[<-ar];refine(callsIn_wide.2 (aK.o.2.2.2.2.1 aq aK.o.2.2.2.2.2.2.2.1)).mono ?_;rintro e au ⟨c3,rfl,az,aU,be⟩;obtain⟨bf,b2,rfl⟩:=az.rd.jW;have aA:=qqb be;obtain⟨am,aB⟩:=qqe (au.alloc (.cells #[.slice bf (needN E.length) b2] 43));have aC:=qqu aB;have aL:=qqg aB;have aV:am.heap.size=au.heap.size+1:=by rw[aB];simp
 have bE:=Y6 az aU aA aC aL aV;clear az aU be aA aC aL aV ar q1 J
 gi_wp2_with (first
  |(refine⟨trivial,?_⟩;gi_at_call 99;rw[<-aB];refine(callsIn_wide.2 (tW (base:Int) (m:Int) am)).mono ?_;rintro e W ⟨rfl,aD⟩)
  |fail)
 have aW:Upd (fun _=>False) am W:=by rw[aD];exact((uur _ am).alloc _).alloc _
 have c4:W.heap.size=am.heap.size+2:=by rw[aD];simp
 have bg:W.cell? ⟨am.heap.size,0,none⟩=some (.int .i64 (base:Int)):=by
  rw[aD];exact(za ((qxk _ _ _ oe).trans (zc am _ rfl)) 0)
 have bh:W.cell? ⟨am.heap.size+1,0,none⟩=some (.int .i64 (m:Int)):=by
  rw[aD];exact(za (zc _ _ oe) 0)
 obtain⟨ap,aR,-,aI,aS,s,J,aT,b1,aJ,ak⟩:=aK.o;obtain⟨az,aU,aA,aC,aL,aV⟩:=bE.o;have aM:Upd (fun _=>False) aq W:=(aA.trans aC).trans aW;have c5:=aA.size;obtain⟨T,Z⟩:∃T:Nat->Prop,T=fun j=>(S j/\j<w.heap.size)\/W.heap.size<=j:=⟨_,rfl⟩
 have a6:∀j,W.heap.size<=j->T j:=fun j q=>by rw[Z];exact .inr q
 have X:∀j,w.heap.size<=j->j<W.heap.size->¬T j:=fun j h1 h2 h=>by rw[Z]at h;rcases h with h|h<;>omega
 have bi:Dv T W b F O P:=((ap.kw (T:=fun j=>S j/\j<w.heap.size) (fun j h1 h2=>⟨h1,h2⟩)).new (s.trans aM)).wide (fun j h=>by rw[Z];exact .inl h);have ad:=aM.jV aJ;have D:=aM.jV ak;have a7:=aW.jV aL;have aE:=az.keep (aC.trans aW) (fun _ _ h=>h);have bj:=qqh (s.trans aM);have aF:=Y8 bi a6 X ad D a7 aE Z;have bk:=Vw seq E (needN E.length);clear ap aR aI aS s J aT aJ ak az aA aC aW aL aM bi ad D a7 aE Z;rw[<-aB,<-aD];rw[aV]at bg bh;clear aB aD
 refine' wpIn_rangeFunc_ownF rfl oM (gf:=169) (lb:= #[.pointer (some ⟨au.heap.size+1+1,0,none⟩),.pointer (some ⟨au.heap.size+1,0,none⟩)]) rfl trivial (enters_of func169 kR rfl)
  (sV _ oM T (au.heap.size+1+1) (au.heap.size+1) base m W oM oM oM oM (X _ oM oM) (X _ oM oM) bh bg) uf (fun v l o bF av=>ww (M:=W.heap.size) a6 v l o bF av) (qxl _ _) (fun _=>rfl)
  (PwI T W b F O P base (pagesB seq E))
  (PwX T W b F O P base (pagesB seq E) (w.heap.size+1))
  (fun Y bG bH bI G ah ae=>⟨G.1,G.2.1.grown ah (fun r e=>(ae r e).2),yI G.2.2 ah (fun r e=>a6 r (ae r e).1)⟩)
  (fun b2 Y bG bH bI G ah ae=>⟨G.1,G.2.1,G.2.2.1.grown ah (fun r e=>(ae r e).2),yI G.2.2.2.1 ah (fun r e=> .inl (a6 r (ae r e).1)),(grownBy_keeps_cells ah (fun r e=>(ae r e).2) G.2.2.2.2 rfl).trans G.2.2.2.2⟩)
  ⟨rfl,aF.o.1,uur _ _⟩
  _ ?assign ?body ?done ?stop
 case assign=>
  intro l x v c6 ai
  gi_wp2
  exact ai
 case body=>
  rintro l Y ⟨i,bJ⟩ v ⟨a8,K,A⟩ hlt;obtain⟨-,-,-,ad,D,a7,aE,-⟩:=aF.o;have ad:=(A.block _ (zd ad) (X _ oM oM)).trans ad;have D:=(A.block _ (zd D) (X _ oM oM)).trans D;have a7:=(A.block _ (zd a7) (X _ oM oM)).trans a7;have hsl:=aE.keep A (fun j q=>X j (by have:=aU j q;omega) (aE.lt q));have b3:v.cell? ⟨w.heap.size,0,none⟩=some (.pointer (some ⟨b,0,none⟩)):=za ad 0;have c2:v.cell? ⟨au.heap.size,0,none⟩=some (.slice bf (needN E.length) b2):=za a7 0;have c7:=zd ad;have c8:=zd a7;obtain⟨y,hy⟩:=qqe ((pagesB seq E).getD i zB);have an:(bkC y).length=64:=by
   rw[zn,hy];by_cases h:i<(pagesB seq E).length
   .rw [qyf,qyj h];exact bk _ (qyu h)
   .rw [qyf,qyk oM];rfl
  have aX:Hid ((prog.info? 54).map (·.size)=some (bkC y).length):=by show _=_;rw[an];exact zI
  have b4:=Jq F (Y.map (fun x=>YN base (pagesB seq E) x.1)) O P;rw[qzb]at b4;have aN:=QF F (Y.map (fun x=>YN base (pagesB seq E) x.1)) (base+i) y O P;rw[if_pos a8]at aN;have bl:(Y++[(⟨i,bJ⟩:{i:Nat//i<m})]).map (fun x=>YN base (pagesB seq E) x.1)=Y.map (fun x=>YN base (pagesB seq E) x.1)++[(base+i,y)]:=by
   rw[qzg,hy];rfl
  rw[<-bl]at aN;generalize wrsR F (Y.map (fun x=>YN base (pagesB seq E) x.1)) O P=bK at*;obtain⟨c9,aY,aZ,cb⟩:=bK;simp only at a8 K b4 aN;obtain⟨bL,aw,V,af⟩:=K.exact;obtain⟨ax,Q⟩:=qqe (v.alloc (.cells (bkC y).toArray 54));have U:=qqu Q;have ak:=qqg Q;have aO:=zf ak;have aG:ax.heap.size=v.heap.size+1:=by rw[Q];simp
  have bn:=wD (S:=fun j=>bL j\/ax.heap.size<=j) ((aw.new U).wide (fun _ h=> .inl h)) (fun _ h=> .inr h) (base+i) oM y (by rw[<-zn];exact an) oM;have bM:writeR F aY aZ (base+i) y=writeR F aY aZ (base+i) y:=rfl;have bo:=yL F aY aZ (base+i) y;generalize bN:writeR F aY aZ (base+i) y=r at*;clear bM;have L:=Y11 K A hsl hy an aw V af Q U aG;have N:=Y3 D aN bo;have bp:ax.cell? ⟨w.heap.size,0,none⟩=some (.pointer (some ⟨b,0,none⟩)):=U.jU b3 id;have bq:=Y2 bn bp;clear K A hsl ad D a7 aE hy an aw V af U ak bn aG bp a8 b4 aN bl bN bo;clear ad D a7;rw[Q]at aO;obtain⟨ao,ag⟩:=qqe (r.cd);replace ag:=qqh ag;by_cases cc:i<needN E.length
  .obtain ⟨g,ce,cf,ch,aP,ah,bO,H⟩:=L.o.2.2.1.at oM;cases aP;have bP:(pagesB seq E).length=needN E.length:=xM _ _ _;have ae:=sL (F:=pagesB seq E) bk ah H (i:=i) oM;have br:(pagesB seq E)[i]'oM =y:=by rw[L.o.2.2.2.1,qyf,qyj oM];rfl
   rw[br]at ae;have bQ:=qYj ae (.cells (bkC zB).toArray 54);clear ah bO H br ae
   gi_wp2_with (first
    |(refine yM rfl _ _ rfl _ _ rfl _ _ bQ underlying54 rfl aX.out ?_)
    |(refine yM rfl _ _ rfl _ _ rfl _ _ aO underlying54 rfl aX.out ?_)
    |(refine xD rfl _ _ _ rfl _ _ _ rfl rfl (by rw[L.o.2.2.2.2.1];rfl) aX.out (zu y) ?_)
    |fail)
   exact Zcg16
  .have bu:y=zB:=by
    have bP:(pagesB seq E).length=needN E.length:=xM _ _ _;rw[L.o.2.2.2.1,qyf,qyk oM];rfl
   gi_wp2_with fail
   rw[zcA,<-bu];clear bu;refine vU _ _ rfl _ _ rfl _ _ aO underlying54 rfl aX.out ?_
   gi_wp2_with fail
   exact Zcg16
 case done=>
  rintro b8 bT v b9 bU ⟨a8,K,A⟩ ai;obtain⟨-,-,-,-,D,-,-,Z⟩:=aF.o;have D:=(A.block _ (zd D) (X _ oM oM)).trans D;have c1:=za D 0;have bt:=zg D 0;have b0:(ckO base m (pagesB seq E))=bT.map (fun x=>YN base (pagesB seq E) x.1):=by
   rw[ckO,<-bU,qzi];rfl
  rw[<-b0]at a8 K;have aH:=rQ F (ckO base m (pagesB seq E)) O P;generalize wrsR F (ckO base m (pagesB seq E)) O P=r at*;have bV:=Y7 K A a8 ai D Z aH;have bs:=zd D;clear K A b0 D Z a8 aH
  gi_wp2
  obtain⟨K,A,a8,ai,D,Z,aH⟩:=bV.o;have ab:=zi v (w.heap.size+1) 0 (.int .i64 0);have bv:(v.setCell ⟨w.heap.size+1,0,none⟩ (.int .i64 0)).heap[b8]?=some (.deferred (some [])):=(ab.block b8 (zd ai) oM).trans ai;have a7:=zh D 0 (.int .i64 0);refine⟨oe,.inl ⟨_,_,rfl,run_takeDeferred bv,?_⟩⟩;have h1:=K.keep ab (fun j q e=>X j oM oM q);obtain⟨aP,ba,bb⟩:=Js (rb:=w.heap.size+1) oM b9 oM oM Z aK.o.2.1 bj.o h1 ((A.mono (fun _ _ h=> .inl h)).trans (ab.mono (fun _ _ h=> .inr h))) a7 bv rfl;refine⟨.int .i64 0,by simp[results,results59,go_sem,aP],?_,?_,bb⟩
  .rw [a8]
  .rw [aH];exact ba
 case stop=>
  rintro b8 c Y v b9 bx ⟨rfl,a8,K,A,bc⟩ ai;have Z:=aF.o.2.2.2.2.2.2.2;have bW:Y.length<=m:=by
   refine Decidable.byContradiction fun hlt=>?_;have bX:m∈Y.map (·.1):=by rw[bx];exact qzs.2 oM
   obtain⟨x,-,hx⟩:=qzq.1 bX;have:=x.2;omega
  obtain⟨ci,bY⟩:=zaL (base:=base) (pagesB seq E) bW;have b0:(ckO base Y.length (pagesB seq E))=Y.map (fun x=>YN base (pagesB seq E) x.1):=by
   rw[ckO,<-bx,qzi];rfl
  have bz:wrsR F (ckO base m (pagesB seq E)) O P=wrsR F (Y.map (fun x=>YN base (pagesB seq E) x.1)) O P:=by
   rw[bY,b0];exact Jr _ _ _ _ _ a8
  have aH:=rQ F (ckO base m (pagesB seq E)) O P;rw[<-bz]at a8 K bc;generalize wrsR F (ckO base m (pagesB seq E)) O P=r at*;clear bz;obtain⟨aP,ba,bb⟩:=Js (rb:=w.heap.size+1) oM b9 oM oM Z aK.o.2.1 bj.o K A bc ai rfl;clear K A bc
  gi_wp2
  refine⟨oe,.inl ⟨_,_,rfl,run_takeDeferred ai,?_⟩⟩;refine⟨.int .i64 r.cd,by simp[results,results59,go_sem,aP],rfl,?_,bb⟩;rw[aH];exact ba
end
section
def saveR(F:List Bk)(O:List (Nat×Bk))(P:List Int)(L:List (Nat×Bk)):DRes:=
 if(wrsR F L O P).cd=0 then flushR F (wrsR F L O P).O (wrsR F L O P).P else wrsR F L O P
theorem QG(F:List Bk)(O:List (Nat×Bk))(P:List Int)(L:List (Nat×Bk)):(saveR F O P L).F.length=F.length:=by
 unfold saveR;split
 .unfold flushR;repeat' split
  all_goals simp[zM]
 .rw [rQ]
theorem Zcg161{P:Prop}(h:P:=by
  go_enter func31,ntmps31
  go_wp2_with fail
  refine X.o.mono ?_;rintro e ae ⟨rfl,v,G⟩;rw[q.o.2.2]at v;rw[<-s.out];have A:=Y3 (xg v (fun K af=>q.o.1 K (by have:=G.size;omega))) G v;clear v G;by_cases D:Q=0
  .have H:=qqh (D▸s.out:0=r.cd);subst D;go_wp2_with fail
   refine A.o.1.mono ?_;rintro e ag ⟨rfl,L,M⟩;have J:=Y2 L M;have j:=q.o.2.1;rw[if_pos H.o.symm]at j;rw[<-j]at J⊢;replace j:=qqh j;clear L M;go_wp2
   go_ret
   exact⟨rfl,J.o.1,A.o.2.1.trans J.o.2⟩
  .have ah:(Q==0)=false:=by simpa using D
   have H:=qqh D;go_wp2
   go_ret
   have j:=q.o.2.1;rw[if_neg (by rw[<-s.out];exact H.o)]at j;rw[j,s.out];refine⟨rfl,?_,A.o.2.1⟩;rw[q.o.2.2];exact A.o.2.2):P:=h
theorem Jt(R:Dv S w b F O P)(U:∀K,w.heap.size<=K->S K)(base m seq wh:Nat)(ai:wh<=1)(V:Option Addr)(n lc:Nat)(E:List Ent)(Y:E.length=n)(Z:needN n<=m)(a6:n<=100000)
  (aj:base+m+m<=F.length) (a7:O.length+m<65536) (a8:∀W,Below w.heap.size w W->Calls prog 98 #[.int .i64 (seq:Int),.slice V n lc] W (xx W seq E)):
  Calls prog 31 #[.pointer (some ⟨b,0,none⟩),.int .i64 (base:Int),.int .i64 (m:Int),.int .i64 (wh:Int),.int .i64 (seq:Int),.slice V n lc] w (AB S w b (saveR F O P (ckO (base+wh*m) m (pagesB seq E)))):=by
 have ak:=R.good.fl;have aa:=zaM R U (base+wh*m) m seq V n lc E Y Z a6 (by rcases(show wh=0\/wh=1 by omega)with rfl|rfl<;>omega) a7 a8;have ab:=rQ F (ckO (base+wh*m) m (pagesB seq E)) O P;obtain⟨am,N⟩:=qqe (saveR F O P (ckO (base+wh*m) m (pagesB seq E)));rw[<-N];unfold saveR at N;generalize wrsR F (ckO (base+wh*m) m (pagesB seq E)) O P=r at*;have X:=qqh aa;have q:=Y3 U N ab;obtain⟨Q,s⟩:=qqe (r.cd);replace s:=qqh s;clear R U Y Z a6 a7 a8 aa ab N;rcases(show wh=0\/wh=1 by omega)with rfl|rfl
 .simp only[qYa,qXm,Int.natCast_zero]at*;exact Zcg161
 .simp only[Nat.one_mul,Int.natCast_one]at*;have ad:((base:Int)+(m:Int))=((base+m:Nat):Int):=oe;rw[<-ad]at X;clear ad;exact Zcg161
theorem Ju(h:Nat)(s:Int)(y:Bk)(w:World):Calls prog 26 #[.int .i64 s,.agg (bkC y).toArray,.pointer (some ⟨h,0,none⟩)] w
  fun e w'=>e=.returned (.func (.func 27) #[] #[.pointer (some ⟨h,0,none⟩),.pointer (some ⟨w.heap.size,0,none⟩),.pointer (some ⟨w.heap.size+1,0,none⟩)])/\
   w'=(w.alloc (.cells #[.int .i64 s] 3)).alloc (.cells (bkC y).toArray 54):=by
 have j:=qqf;go_enter func26,ntmps26
 go_wp2
 go_ret
 simp
theorem Zj{j q v:Nat}(A:Dv T w b F O P)(D:∀E,w.heap.size<=E->T E)(s:Nat)(y:Bk)(hy:y.length=64)
  (L:w.cell? ⟨j,0,none⟩=some (.pointer (some ⟨b,0,none⟩))) (c1:w.cell? ⟨q,0,none⟩=some (.int .i64 (s:Int))) (G:w.rangeAt v 0 (bkC y)) (M:s<F.length) (N:O.length<65536):
  Calls prog 27 #[.pointer (some ⟨j,0,none⟩),.pointer (some ⟨q,0,none⟩),.pointer (some ⟨v,0,none⟩)] w (AB T w b (writeR F O P s y)):=by
 have H:=qqh (wD A D s M y hy N);have Q:=zv y hy;clear A D;go_enter func27,ntmps27
 go_wp2_with (first
  |(refine qZa rfl _ _ rfl _ _ rfl _ _ G underlying54 rfl Q ?_)
  |fail)
 refine H.o.mono ?_;rintro e U ⟨rfl,J,K⟩;have R:=Y2 J K;obtain⟨V,h⟩:=qqe ((writeR F O P s y).cd);rw[<-h];replace h:=qqh h;clear J K H L c1 G;go_wp2
 go_ret
 exact⟨by rw[<-h.out];rfl,R.o⟩
def zW(k:Nat):List (Nat×Bk):=(List.range k).map fun i=>(i+1,zB)
theorem Ti(k:Nat):zW (k+1)=zW k++[(k+1,zB)]:=by simp[zW,List.range_succ]
theorem Jv(k:Nat):(zW k).length=k:=by simp[zW]
theorem tK(F:List Bk)(O:List (Nat×Bk))(s:Nat)(y:Bk):writeR F O [] s y=⟨F,O++[(s,y)],[],0⟩:=rfl
theorem QH{pl L:Nat}(h:Dv T w b F O [])(s:∀G,w.heap.size<=G->T G)(z:Nat)(a8:1<=z)
  (v:w.cell? ⟨L,0,none⟩=some (.pointer (some ⟨b,0,none⟩))) (E:w.cell? ⟨pl,5,none⟩=some (.int .i64 (z:Int))) (A:¬T pl) (D:¬T L) (aa:z<=F.length) (ab:O.length<=50000):
  Calls prog 29 #[.pointer (some ⟨pl,0,none⟩),.pointer (some ⟨L,0,none⟩)] w (AB T w b ⟨F,O++zW (z-1),[],0⟩):=by
 have ad:=h.good.fl;obtain⟨M,j⟩:=qqe (zB);have V:=qqh (xF M j);have N:=Y7 h s v E A D j;clear h s v E A D j;go_enter func29,ntmps29
 go_wp2_with fail
 go_loopg[3] (z-1) (fun gk W wr=>∃k:Nat,k+gk=z-1/\W=.int .i64 ((k:Int)+1)/\Dv T wr b F (O++zW k) []/\Upd T w wr)
 case atStart=>exact⟨0,oM,oe,by rw[show zW 0=[]from rfl,qxw];exact N.o.1,uur _ _⟩
 case round=>
  obtain⟨k,ae,rfl,H,q⟩:=hrel;obtain⟨h,s,v,E,A,D,j⟩:=N.o;have R:=q.jU v D;have X:=q.jU E A;by_cases hlt:k+1<z
  .have Y:(k:Int)+1<(z:Int):=oM;have Q:=qqh (wD H (fun G Z=>s G (qXr q.size Z)) (k+1) oM M (by rw[j];exact zG) (by rw[qyy,Jv];omega));rw[tK,show((k+1:Nat):Int)=(k:Int)+1 by simp]at Q;have a6:=qqh q;clear h s v E A D j H q;go_wp2_with (first
    |(refine zX rfl rfl V.o ?_)
    |fail)
   refine Q.o.mono ?_;rintro e af ⟨rfl,J,K⟩;have a7:=Y2 J (a6.o.trans K);clear J K Q R X;go_wp2
   go_roundg (gk-1)
   case measure=>omega
   case rel=>
    obtain⟨J,K⟩:=a7.o;refine⟨k+1,oM,by go_num,?_,K⟩;have e:O++zW (k+1)=O++zW k++[(k+1,M)]:=by rw[Ti,N.o.2.2.2.2.2.2,qxv]
    rw[e];exact J
  .obtain rfl:z=k+1:=oM;have Y:¬((k:Int)+1<((k+1:Nat):Int)):=oM;have ag:¬((k:Int)+1<(k:Int)+1):=oM;have U:=Y2 H q;clear h s v A D j H q R;go_wp2_with fail
   go_ret
   exact⟨rfl,U.o.1,U.o.2⟩
theorem Jw{v pl ps:Nat}(h:Dv T w b F O [])(A:∀D,w.heap.size<=D->T D)(E:Nib w)(_hNT:¬T 1)(j:Nat)(J:1<=j)(K:1+j+j<=F.length)(L:O.length+j<65536)
  (M:w.cell? ⟨v,0,none⟩=some (.pointer (some ⟨b,0,none⟩))) (N:w.cell? ⟨pl,0,none⟩=some (.int .i64 1)) (Q:w.cell? ⟨ps,4,none⟩=some (.int .i64 (j:Int))):
  Calls prog 30 #[.pointer (some ⟨v,0,none⟩),.pointer (some ⟨pl,0,none⟩),.pointer (some ⟨ps,0,none⟩)] w (AB T w b ⟨flushF F (O++ckO 1 j (pagesB 0 [])),[],[],0⟩):=by
 have q:=Jt h A 1 j 0 0 oM none 0 0 [] rfl (by unfold needN;simpa using J) oM K L (fun X R=>Zg 0 oM (E.below R));have e:saveR F O [] (ckO (1+0*j) j (pagesB 0 []))=⟨flushF F (O++ckO 1 j (pagesB 0 [])),[],[],0⟩:=by
  rw[qYa,qXm];unfold saveR;have U:∀(s O:List (Nat×Bk)),wrsR F s O []=⟨F,O++s,[],0⟩:=by
   intro s
   induction s with
   |nil=>intro O;simp[wrsR]
   |cons x s V=>
    intro O;rw[wrsR_yes (by rw[tK]),tK,V];simp
  rw[U];rfl
 rw[e]at q;replace q:=qqh q;clear h A E _hNT e;go_enter func30,ntmps30
 go_wp2_with fail
 refine q.o.mono ?_;rintro e Y ⟨rfl,G,H⟩;have W:=Y2 G H;clear G H q M N Q;go_wp2
 go_ret
 exact⟨rfl,W.o⟩
theorem Zk(s:k<256){sz:List Nat}(h:xs.length=sz.length)(v:∀x∈xs,0<=x)(A:qS (numL sz xs))(mb:Bool):
  okGet (sectB k (numL sz xs)) k sz mb=mb/\natsI (numsAt (sectB k (numL sz xs)) 1 sz)=xs:=by
 have h2:(numL sz xs).map (·.2)=sz:=by unfold numL;rw[List.map_snd_zip (by simp[h])]
 obtain⟨j,q⟩:=zad s A mb;rw[h2]at j q;refine⟨j,?_⟩;rw[q];have:=tB h v;unfold numsL at this;unfold natsI;rw[qzi];exact this
def numsP(b:Bk):List Nat:=numsAt b 1 UV
def okP(b:Bk):Bool:=okGet b 3 UV (mayP (natsI (numsP b)))
def cdP(b:Bk):Int:=xp b 3 UV (mayP (natsI (numsP b)))
theorem QI(hx:xs.length=20)(h:mayP xs=true):okP (sectP xs)=true/\natsI (numsP (sectP xs))=xs:=by
 obtain⟨q,s⟩:=tE hx h;obtain⟨v,A⟩:=Zk (k:=3) de (sz:=UV) (by rw[hx];rfl) q s (mayP (natsI (numsP (sectP xs))));have j:natsI (numsP (sectP xs))=xs:=A;refine⟨?_,j⟩;unfold okP;rw[show okGet (sectP xs) 3 UV (mayP (natsI (numsP (sectP xs))))=mayP (natsI (numsP (sectP xs)))from v,j];exact h
def entX(xs:List Int)(i:Nat):List Value:=[.int .i64 ((rowI xs i).getD 0 0),.int .i64 ((rowI xs i).getD 1 0),.bool ((rowI xs i).getD 2 0==1),.int .i64 ((rowI xs i).getD 3 0)]
def Jy:List Value:=[.int .i64 0,.int .i64 0,.bool false,.int .i64 0]
def dsPk(xs:List Int)(k:Nat):List Value:=[.int .i64 (xs.getD 0 0),.int .i64 (xs.getD 1 0),.int .i64 (xs.getD 2 0),.int .i64 (xs.getD 3 0)]++(List.range 4).flatMap fun i=>if i<k then entX xs i else Jy
def dsP(xs:List Int):List Value:=dsPk xs 4
theorem wg(xs:List Int)(k:Nat):(dsPk xs k).length=20:=by
 have e:∀i,(if i<k then entX xs i else Jy).length=4:=fun i=>by split<;>rfl
 simp[dsPk,List.range_succ,e]
theorem XT(xs:List Int)(k:Nat):∀q∈dsPk xs k,q.oneCell'=true:=by
 intro q h;rcases qzl.1 h with h|h
 .simp only[qzm,qzy,qYv]at h;rcases h with rfl|rfl|rfl|rfl<;>rfl
 .obtain ⟨i,-,j⟩:=qzp.1 h;split at j<;>(simp only[entX,Jy,qzm,qzy,qYv]at j;rcases j with rfl|rfl|rfl|rfl<;>rfl)
theorem vL(xs:List Int):(dsP xs).length=20:=wg xs 4
theorem vM(xs:List Int):∀v∈dsP xs,v.oneCell'=true:=XT xs 4
theorem QJ(xs:List Int)(h:k<4):(dsPk xs k).take (4+k*4)++entX xs k++(dsPk xs k).drop (4+k*4+4)=dsPk xs (k+1):=by
 rcases(show k=0\/k=1\/k=2\/k=3 by omega)with rfl|rfl|rfl|rfl<;>rfl
theorem Tj(w:World):(Instr.alloc 263 true (.tuple #[])).run prog w=.ok (.pointer (some ⟨w.heap.size,0,none⟩)) (w.alloc (.cells (dsPk [] 0).toArray 263)):=by
 kernel_rfl
theorem Jz(h j q s:Int)(W:World):(Instr.build 263 #[(0,.int .i64 h),(1,.int .i64 j),(2,.int .i64 q),(3,.int .i64 s)]).run prog W=.ok (.agg ([Value.int .i64 h,.int .i64 j,.int .i64 q,.int .i64 s]++(List.range 4).flatMap fun _=>Jy).toArray) W:=by
 kernel_rfl
theorem vY{s cs:Array Value}{q:List Value}{o:Nat}(_hs:s.size=cs.size)(v:o+q.length<=cs.size)(h:∀j,s[j]?=if o<=j/\j<o+q.length/\j<cs.size then q[j-o]? else cs[j]?):s=(cs.toList.take o++q++cs.toList.drop (o+q.length)).toArray:=by
 apply qxd
 intro j;rw[h j];simp only[qyq,qxv,List.getElem?_append,qzf,qyp,qyi,qxh,Nat.min_eq_left (show o<=cs.size by omega),Array.getElem?_toList];by_cases h1:j<o
 .rw [if_neg oM,if_pos h1,if_pos h1]
 .by_cases h2:j<o+q.length
  .rw [if_pos oM,if_neg h1,if_pos oM]
  .rw [if_neg oM,if_neg h1,if_neg oM]
   congr 1
   omega
theorem XU{T:TypeId}(h:k<4)(j:w.heap[b]?=some (.cells (dsPk xs k).toArray T (0,0))):(w.setCells b (4+k*4) (entX xs k)).heap[b]?=some (.cells (dsPk xs (k+1)).toArray T (0,0)):=by
 obtain⟨s,h1,h2,q⟩:=zC (entX xs k) (4+k*4) w b (dsPk xs k).toArray T (0,0) j;rw[h1,vY h2 (by rw[qXh,wg];show 4+k*4+4<=20;omega) q,<-QJ xs h];rfl
theorem zdu{gl ol cl:Nat}(xs:List Int)(E:xs.length=20)(hx:w.rangeAt gl ol (ints xs))(H:20<=cl)(J:cl<=maxLen):
  Calls prog 302 (#[.slice (some ⟨gl,ol,none⟩) 20 cl]++ #[]) w fun e w'=>e=.returned (.agg (dsP xs).toArray)/\Below w.heap.size w w':=by
 have an:=yx hx 0 oM;have c1:=yx hx 1 oM;have c2:=yx hx 2 oM;have aF:=yx hx 3 oM;rw[qXm]at an;have hlt:gl<w.heap.size:=qYh w _ an;have au:dsPk xs 0=[.int .i64 (xs.getD 0 0),.int .i64 (xs.getD 1 0),.int .i64 (xs.getD 2 0),.int .i64 (xs.getD 3 0)]++(List.range 4).flatMap fun _=>Jy:=rfl;have ao:=Jz (xs.getD 0 0) (xs.getD 1 0) (xs.getD 2 0) (xs.getD 3 0);rw[<-au]at ao;have ba:=qqh au;generalize xs.getD 0 0=aG at*;generalize xs.getD 1 0=aH at*;generalize xs.getD 2 0=aI at*;generalize xs.getD 3 0=aJ at*;obtain⟨L,av⟩:=qqe (dsPk [] 0);have ap:=Tj;simp only[<-av]at ap;have X:L.toArray.size=20:=by rw[av,qXh,wg]
 obtain⟨q,M⟩:=qqe (dsPk xs 0);rw[<-M]at ao;have ae:q.toArray.size=20:=by rw[M,qXh,wg]
 have aK:(prog.info? 263).map (·.size)=some q.toArray.size:=by rw[ae];exact wZ
 have aL:∀bb∈q,bb.oneCell'=true:=by rw[M];exact XT _ _
 obtain⟨w1,af⟩:=qqe (w.alloc (.cells L.toArray 263));have G:=qqu af;have Y:=qqg af;have Z:w1.heap.size=w.heap.size+1:=by rw[af];simp
 have aM:=G.jU an id;have aN:=G.jU c1 id;have aO:=G.jU c2 id;have aP:=G.jU aF id;have aQ:=qqh af;have a6:=Y8 hx E H J G Y Z M;clear hx E H J G Y Z M af an c1 c2 aF av au ba;go_enter func302,ntmps302
 go_wp2_with (first
  |(refine zT rfl _ rfl _ ap ?_)
  |fail)
 rw[<-aQ.o];refine qZd (S:=fun a7=>a7.cell? ⟨gl,ol,none⟩=some (.int .i64 aG)/\a7.cell? ⟨gl,ol+1,none⟩=some (.int .i64 aH)/\a7.cell? ⟨gl,ol+2,none⟩=some (.int .i64 aI)/\a7.cell? ⟨gl,ol+3,none⟩=some (.int .i64 aJ)) kR (by(simp only[qYi]);exact⟨aM,aN,aO,aP⟩) (fun Q=>?_);refine Wl.i [0,1,2,3,4,5,6,7,8,9,10,11] ?_;iterate 12 refine Wl.t Q ?_
 refine Wl.o ?_;refine qYz (i:=12) (v:=.agg q.toArray) rfl kR kR kR (fun _ _ _ h=>h) (Or.inl ⟨by rfl,fun a7 _=>?_⟩) Q ?_
 .simp only[qyx,qyr,qys,execOp,qYg,qzk,qzh,qzj]
  change ((Instr.build 263 #[(0,.int .i64 aG),(1,.int .i64 aH),(2,.int .i64 aI),(3,.int .i64 aJ)]).run prog a7).andThen _=_
  rw[ao];rfl
 simp only[qyx,qyr,qys,Act.put,qXd,qXg,qXf];refine Wl.r 13 (fun aw ag=>?_);rw[if_pos oA];unfold Oper.wp;simp only[qyx,qyr,qys,execOp,qYg,ap,qYf];have a8:=zc w1.drew (.cells L.toArray 263) rfl;have j:=(uur (fun _=>False) w1.drew).alloc (.cells L.toArray 263);obtain⟨R,aR⟩:=qqe (w1.drew.alloc (.cells L.toArray 263));rw[<-aR]at a8 j⊢;simp only[World.size_drew]at a8;have aS:=j.jU Q.1 id;have aT:=j.jU Q.2.1 id;have aU:=j.jU Q.2.2.1 id;have aV:=j.jU Q.2.2.2 id;refine ag.o _ _ ⟨aS,aT,aU,aV⟩ (fun ah=>?_);clear ag aw;have s:R.there w1.heap.size 0 q.toArray.size:=fun A aq=>by
  rw[za a8,qXy,qxe (by rw[X,<-ae];exact aq)];exact⟨rfl,zg a8 _⟩
 refine Wl.r 14 (fun aw ag=>?_);rw[if_pos oA];refine qZe _ _ _ rfl _ _ q.toArray rfl rfl s aK (qYo aL) ?_;simp only[Act.put,qXd];have K:=zo R w1.heap.size 0 q;have D:gl≠w1.heap.size:=by have:=a6.o.2.2.2.2.2.2.1;omega
 have U:(R.setCells w1.heap.size 0 q).heap[w1.heap.size]?=some (.cells q.toArray 263 (0,0)):=by
  obtain⟨bj,q1,q2,bc⟩:=zC q 0 R w1.heap.size L.toArray 263 (0,0) a8;rw[q1,vY q2 (by rw[X,<-ae,qXh];omega) bc];have:q.length=L.toArray.size:=by rw[X,<-ae,qXh]
  rw[qXy,List.take_zero,qzu,List.drop_of_length_le (by rw[qxh];omega),qxw]
 obtain⟨hx,E,H,J,G,Y,Z,M⟩:=a6.o;have ai:Upd (fun _=>False) w1 R:=((uur _ w1).drew).trans j;have N:=(K.block w.heap.size (by have:=zd Y;have:=ai.size;omega) oM).trans (ai.jV Y);have V:Upd (fun A=>A=w1.heap.size) w (R.setCells w1.heap.size 0 q):=((G.trans ai).mono fE).trans K;refine ag.o _ _ ⟨K.jU ah.1 D,K.jU ah.2.1 D,K.jU ah.2.2.1 D,K.jU ah.2.2.2 D⟩ (fun _=>?_);clear ag aw;refine Wl.d ?_;rw[Z]at U K D V N;simp only[World.size_drew,Z];generalize R.setCells (w.heap.size+1) 0 q=bd at*;rw[M]at U;have aW:=((G.trans ai).range hx id)
 have aa:=K.range aW D;have be:=qqh X;have aX:=Y8 aa U N V E H J D;clear hx E H J G Y M K a8 j aS aT aU aV s ah Q ai N V aW aa U aM aN aO aP aR ap ao ae aK aL X a6 aQ D Z;go_wp2_with fail
 go_loopg[19] 4 (fun g bf wr=>∃k:Nat,k+g=4/\bf=.int .i64 (k:Int)/\wr.heap[w.heap.size+1]?=some (.cells (dsPk xs k).toArray 263 (0,0))/\Upd (fun A=>A=w.heap.size+1) bd wr)
 case atStart=>exact⟨0,oM,rfl,aX.o.2.1,uur _ _⟩
 case round=>
  obtain⟨k,bk,rfl,ar,ab⟩:=hrel;obtain⟨aa,U,N,V,E,H,J,D⟩:=aX.o;by_cases hlt:k<4
  .have bg:(k:Int)<4:=oM;have bl:(0:Int)<=(k:Int):=oM;have aY:=qqh (UI (ab.range aa D) E H J k hlt);have aZ:=xV E hlt;obtain⟨a0,a1,a2,a3,ax⟩:∃a0 a1 a2 a3,rowI xs k=[a0,a1,a2,a3]:=by
    match rowI xs k,aZ with
    |[a0,a1,a2,a3],_=>exact⟨_,_,_,_,rfl⟩
   rw[ax]at aY;have bh:Hid (entX xs k=[.int .i64 a0,.int .i64 a1,.bool (a2==1),.int .i64 a3]):=by show _=_;unfold entX;rw[ax];rfl
   have b0:=Y2 ar ab;clear aa U N V E H J D ar ab aZ ax;go_wp2_with fail
   refine aY.o.mono ?_;rintro e aj ⟨rfl,b1⟩;have j:Upd (fun _=>False) wr (aj.alloc (.cells #[.int .i64 a0,.int .i64 a1,.int .i64 a2,.int .i64 a3] 413)):=(uuo b1).alloc _;have W:=j.jV b0.o.1;have s:(aj.alloc (.cells #[.int .i64 a0,.int .i64 a1,.int .i64 a2,.int .i64 a3] 413)).there (w.heap.size+1) (4+k*4) 4:=fun A aq=>by
    rw[za W,zg W,qxe (by rw[qXh,wg];omega)];exact⟨rfl,rfl⟩
   have b2:=Y2 j W;obtain⟨ad,ak⟩:∃ad:List Value,ad=[.int .i64 a0,.int .i64 a1,.bool (a2==1),.int .i64 a3]:=⟨_,rfl⟩
   have b3:ad.toArray.all (·.oneCell')=true:=by rw[ak];simp[Value.oneCell']
   have b4:(prog.info? 132).map (·.size)=some ad.toArray.size:=by rw[ak];exact ZL
   have b5:(aj.alloc (.cells #[.int .i64 a0,.int .i64 a1,.int .i64 a2,.int .i64 a3] 413)).there (w.heap.size+1) (4+k*4) ad.toArray.size:=by rw[ak];exact s
   replace s:=b5;clear j W b1;simp only[ints,qzh,qzj];go_wp2_with (first
    |(refine zk rfl _ _ _ rfl _ _ [Value.int .i64 a0,.int .i64 a1,.int .i64 a2,.int .i64 a3] rfl rfl rfl Ve jf ?_)
    |(refine qZc rfl _ _ _ rfl (w.heap.size+1) (4+k*4) ad.toArray rfl (by rw[ak];rfl) s b4 b3 ?_)
    |fail)
   obtain⟨j,W⟩:=b2.o;have ay:=XU hlt W;rw[bh.out]at ay;have b6:=(b0.o.2.trans (j.mono (S':=fun A=>A=w.heap.size+1) (fun _ _ h=>h.elim))).trans (zo (aj.alloc (.cells #[.int .i64 a0,.int .i64 a1,.int .i64 a2,.int .i64 a3] 413)) (w.heap.size+1) (4+k*4) [Value.int .i64 a0,.int .i64 a1,.bool (a2==1),.int .i64 a3]);generalize (aj.alloc (.cells #[.int .i64 a0,.int .i64 a1,.int .i64 a2,.int .i64 a3] 413)).setCells (w.heap.size+1) (4+k*4) [Value.int .i64 a0,.int .i64 a1,.bool (a2==1),.int .i64 a3]=bn at*;have a6:=Y2 ay b6;clear j W ay b6 s b5 b3 b4 ak b2;go_roundg (gk-1)
   case measure=>omega
   case rel=>exact⟨k+1,oM,by go_num,a6.o.1,a6.o.2⟩
  .obtain rfl:k=4:=oM;have bg:¬(((4:Nat):Int)<4):=de;have am:=vL xs;have h1:=vM xs;have az:(prog.info? 263).map (·.size)=some (dsP xs).length:=by rw[am];exact wZ
   have b7:(prog.info? 263).map (·.size)=some (dsP xs).toArray.size:=by rw[qXh,am];exact wZ
   have b8:wr.rangeAt (w.heap.size+1) 0 (dsP xs):=zf ar;have aA:=(ab.block w.heap.size (zd N) oM).trans N;have X:L.toArray.size=20:=be.o;have s:wr.there w.heap.size 0 (dsP xs).toArray.size:=fun A aq=>by
    rw[za aA,zg aA,qxe (by rw[qXh,am]at aq;omega)];exact⟨rfl,rfl⟩
   have aB:wr.there w.heap.size 0 (dsP xs).length:=by rw[qXh]at s;exact s
   have b9:=V.trans ab;obtain⟨aC,aD⟩:=qqe (dsP xs);rw[<-aD]at am h1 az b7 b8 s aB;have bi:=qqh aD;clear aD;have aE:=Y3 aB az b9;clear aa U N V E H J ar ab aB b9 am aA;go_wp2_with (first
    |(refine qZa rfl _ _ rfl _ _ rfl _ _ b8 underlying263 rfl az ?_)
    |(refine qZc rfl _ _ _ rfl w.heap.size 0 aC.toArray rfl rfl s b7 (qYo h1) ?_)
    |fail)
   exact qYq (zq rfl _ _ w.heap.size 0 aC _ rfl (qYl _ _ _ _ aE.o.1) underlying263 rfl aE.o.2.1) rfl
    ⟨by rw[bi.o],zj (qxl _ w) ((aE.o.2.2.mono (S':=fun A=>A=w.heap.size+1\/A=w.heap.size) (fun _ _ h=> .inl h)).trans ((zo wr w.heap.size 0 aC).mono (fun _ _ h=> .inr h))) (qXp _) (fun k e=>oM)⟩
section
variable{own own':Nat->Nat}{w w':World}{c:Nat}{n:CaN}{p:CaP}{a:CaS}
theorem zft(h:CaAt own w c n p a):Calls prog 113 #[ptr c] w fun e w'=>e=.returned (.tuple #[ptr p.ssd,ptr p.back])/\Upd (fun _=>False) w w':=by
 obtain⟨q,s,-⟩:=h.cells;clear h;go_enter func113,ntmps113
 go_wp2
 go_quiet(fail)
 have j:Upd (fun _=>False) w (w.drewN nq):=(uur _ w).drewN nq;generalize w.drewN nq=v at*;go_wp2
 go_ret2
 exact⟨rfl,j⟩
theorem C_one(n:CaN):∀h∈n.C,h.oneCell'=true:=by
 intro h j;simp only[CaN.C,qzm,qzy,qYv]at j;rcases j with rfl|rfl|rfl|rfl|rfl|rfl|rfl<;>rfl
theorem Tk(sl q s v:Nat):∀h∈layC sl q s v,h.oneCell'=true:=by
 intro h j;simp only[qzm,qzy,qYv]at j;rcases j with rfl|rfl|rfl|rfl|rfl|rfl|rfl<;>rfl
theorem zdv(h:CaAt own w c n p a):Calls prog 36 #[ptr c] w fun e w'=>e=.returned (.agg n.C.toArray)/\Below w.heap.size w w':=by
 obtain⟨j,hU⟩:=qqe (n.C);have A:w.rangeAt c 0 j:=fun E s hv=>by
  have:=zf h.str E s (by rw[caC,qyg oQ,<-hU];exact hv);exact this
 have v:j.length=7:=by rw[hU];rfl
 have D:(prog.info? 38).map (·.size)=some j.length:=by rw[v];exact xt
 have h1:∀s∈j,s.oneCell'=true:=by rw[hU];exact C_one n
 have G:=qYj A (.cells j.toArray 38);rw[<-hU];have q:=Y3 D h1 v;clear h hU D h1 v;go_enter func36,ntmps36
 go_wp2_with (first
  |(refine qZa rfl _ _ rfl _ _ rfl _ _ (qYj A _) underlying38 rfl q.o.1 ?_)
  |(refine zk rfl _ _ _ rfl _ _ _ rfl rfl (by rw[q.o.2.2];rfl) q.o.1 q.o.2.1 ?_)
  |fail)
 refine qYq (zq rfl _ _ w.heap.size 0 j _ rfl (zf (zc w _ rfl)) underlying38 rfl q.o.1) rfl ⟨rfl,(qxl _ w).alloc (qXp _) _⟩
theorem zaN(h:CaAt own w c n p a):Calls prog 114 #[ptr c] w fun e w'=>e=.returned (.agg (layC n.sl n.jo n.pa n.lo).toArray)/\Below w.heap.size w w':=by
 obtain⟨q,hU⟩:=qqe (layC n.sl n.jo n.pa n.lo);have v:q.length=7:=by rw[hU];rfl
 have E:w.rangeAt c 7 q:=fun j A hv=>by
  have:=zf h.str (7+j) A (by
   rw[caC,qyh (by show(7:Nat)<=7+j;omega),show 7+j-n.C.length=j by show 7+j-7=j;omega,qyg oQ,<-hU];exact hv)
  rw[qXy]at this;exact this
 have D:(prog.info? 62).map (·.size)=some q.length:=by rw[v];exact xh
 have h1:∀A∈q,A.oneCell'=true:=by rw[hU];exact Tk _ _ _ _
 rw[<-hU];have s:=Y3 D h1 v;clear h hU D h1 v;go_enter func114,ntmps114
 go_wp2_with (first
  |(refine qZa rfl _ _ rfl _ _ rfl _ _ (qYj E _) underlying62 rfl s.o.1 ?_)
  |(refine zk rfl _ _ _ rfl _ _ _ rfl rfl (by rw[s.o.2.2];rfl) s.o.1 s.o.2.1 ?_)
  |fail)
 refine qYq (zq rfl _ _ w.heap.size 0 q _ rfl (zf (zc w _ rfl)) underlying62 rfl s.o.1) rfl ⟨rfl,(qxl _ w).alloc (qXp _) _⟩
end
def zfu(w:World)(n:CaN)(d:Nat)(e:Ending)(w':World):Prop:=
 ∃li lc lf,e=.returned (.tuple #[.agg #[ptr li,ptr lc,ptr lf],.int .i64 0])/\LogI w' li d (1+2*n.pa+n.jo) n.lo 118/\LogC w' lc d (1+2*n.pa+n.jo+n.lo) n.lo 122/\
  LogF w' lf d (1+2*n.pa+n.jo+n.lo+n.lo) n.lo 126/\(w.heap.size<=li/\w.heap.size<=lc/\w.heap.size<=lf)/\Below w.heap.size w w'
theorem JA(n:CaN)(w:World):(Instr.field 38 (.agg n.C.toArray) 5).run prog w=.ok (.int .i64 (n.lo:Int)) w:=kR
section
variable{own own':Nat->Nat}{w w':World}{c:Nat}{n:CaN}{p:CaP}{a:CaS}
theorem zfv(h:CaAt own w c n p a):Calls prog 68 #[ptr c] w (zfu w n p.ssd):=by
 obtain⟨M,am⟩:=qqe (layC n.sl n.jo n.pa n.lo);obtain⟨w1,N⟩:=qqe (w.alloc (.cells #[.pointer none,.pointer none,.pointer none] 93));have aa:=qqu N;have h1:=h.new aa;have an:=qqg N;have q:=Y4 h1 aa an am;have aC:=qqh (zft h1);have aD:=qqh N;have ao:=qqh h.ok;clear h h1 aa N am an;go_enter func68,ntmps68
 go_wp2_with fail
 rw[<-aD.o];refine aC.out.mono ?_;rintro e aS ⟨rfl,ab⟩;have h2:=q.o.1.new ab;have ad:=Y2 h2 ab;have ae:=zaN h2;rw[<-q.o.2.2.2]at ae;have aE:=qqh ae;clear h2 ab ae;go_wp2_with fail
 refine aE.o.mono ?_;rintro e aT ⟨rfl,ap⟩;have af:=qqb ap;have ag:=ad.o.1.new af;have ah:=Y2 ag af;have aF:=qqh (zdv ag);clear ag af ap;go_wp2_with fail
 refine aF.o.mono ?_;rintro e Q ⟨rfl,aq⟩;have R:=qqb aq;clear aq;obtain⟨G,U⟩:=qqe (Q.alloc (.cells M.toArray 62));have V:=qqu U;have ar:=qqg U;have ai:M.length=7:=by rw[q.o.2.2.2];rfl
 have au:∀aG∈M,aG.oneCell'=true:=by rw[q.o.2.2.2];exact Tk _ _ _ _
 have aH:Hid ((prog.info? 62).map (·.size)=some M.length):=by show _=_;rw[ai];exact xh
 have W:=(ah.o.1.new R).new V;have av:=(((q.o.2.1.trans ad.o.2).trans ah.o.2).trans R).trans V;have aw:=(((ad.o.2.trans ah.o.2).trans R).trans V).jV q.o.2.2.1;have s:=Y6 W av ar ai au aw;have aI:=qqh U;have aU:n.size<=4096:=ao.o.z;have aj:=ao.o.l1;have hdl:=W.fl;have v:=qqh (zaw W.ssd (1+2*n.pa+n.jo) n.lo aj jz 118);have aJ:=JA n;clear R V ar ai au W av aw U hdl;go_upto_region 5 with(first
  |(refine zk rfl _ _ _ rfl _ _ _ rfl rfl (by rw[s.o.2.2.2.1];rfl) aH.out s.o.2.2.2.2.1 ?_)
  |fail)
 rw[<-aI.o];clear aJ;have j:=za s.o.2.2.1;rw[q.o.2.2.2]at j;have aK:G.cell? ⟨Q.heap.size,2,none⟩=some (.int .i64 (1+2*(n.pa:Int)+(n.jo:Int))):=j 2;have A:(((1+2*n.pa+n.jo:Nat)):Int)=1+2*(n.pa:Int)+(n.jo:Int):=oe;rw[A]at v;clear j A;go_wp2_with fail
 refine v.o.mono ?_;rintro e J ⟨rfl,ax,ay⟩;have X:=qqb ay;have Y:=s.o.1.new X;have hdl:=Y.fl;have v:=qqh (zax Y.ssd (1+2*n.pa+n.jo+n.lo) n.lo aj jz 122);have H:=Y3 Y ax X;have j:=za (X.jV s.o.2.2.1);rw[q.o.2.2.2]at j;have v3:J.cell? ⟨Q.heap.size,3,none⟩=some (.int .i64 (1+2*(n.pa:Int)+(n.jo:Int)+(n.lo:Int))):=j 3;have A:(((1+2*n.pa+n.jo+n.lo:Nat)):Int)=1+2*(n.pa:Int)+(n.jo:Int)+(n.lo:Int):=oe;rw[A]at v;clear j A Y ax ay X hdl aK;go_wp2_with fail
 refine v.o.mono ?_;rintro e K ⟨rfl,az,aA⟩;have Z:=qqb aA;have ak:=H.o.1.new Z;have hdl:=ak.fl;have v:=qqh (zay ak.ssd (1+2*n.pa+n.jo+n.lo+n.lo) n.lo aj jz 126);have L:=Y2 az Z;have j:=za ((H.o.2.2.trans Z).jV s.o.2.2.1);rw[q.o.2.2.2]at j;have v4:K.cell? ⟨Q.heap.size,4,none⟩=some (.int .i64 (1+2*(n.pa:Int)+(n.jo:Int)+(n.lo:Int)+(n.lo:Int))):=j 4;have A:(((1+2*n.pa+n.jo+n.lo+n.lo:Nat)):Int)=1+2*(n.pa:Int)+(n.jo:Int)+(n.lo:Int)+(n.lo:Int):=oe;rw[A]at v;clear j A ak az aA Z hdl v3;go_wp2_with fail
 refine v.o.mono ?_;rintro e aL ⟨rfl,a6,aB⟩;have E:=qqb aB;have D:=((H.o.2.2.trans L.o.2).trans E).jV s.o.2.2.2.2.2;have aV:=za D 0;have aW:=za D 1;have aX:=za D 2;have a7:=zg D;have aY:=a7 0;have aZ:=a7 1;have b0:=a7 2;have aM:=Y3 a6 E D;clear a6 aB E D a7 v4;go_wp2
 obtain⟨a6,E,D⟩:=aM.o;have s0:=zh D 0 (ptr G.heap.size);have aN:=zh s0 1 (ptr J.heap.size);have aO:=zh aN 2 (ptr K.heap.size);have a8:=((zi aL w.heap.size 0 (ptr G.heap.size)).trans (zi _ w.heap.size 1 (ptr J.heap.size))).trans (zi _ w.heap.size 2 (ptr K.heap.size));have b1:=q.o.2.1.size;have z5:=s.o.2.1.size;have b2:=H.o.2.2.size;have b3:=L.o.2.size;have b4:w.heap.size<G.heap.size:=zd s.o.2.2.2.2.2;have aP:=((H.o.2.1.keep L.o.2 id).keep E id).keep a8 oM;have aQ:=(L.o.1.keep E id).keep a8 oM;have aR:=a6.keep a8 oM;refine qYq (zp rfl _ _ w.heap.size 0 [ptr G.heap.size,ptr J.heap.size,ptr K.heap.size] _ rfl (zf aO) underlying93 rfl kR) rfl ⟨G.heap.size,J.heap.size,K.heap.size,rfl,aP,aQ,aR,⟨oM,oM,oM⟩,?_⟩;exact Upd.below ((((s.o.2.1.trans H.o.2.2).trans L.o.2).trans E).new a8 (fun i b5 e=>oM))
end
def qa(ns:List Nat)(i:Nat):Ent:=⟨ns.getD (4+4*i) 0,ns.getD (4+4*i+1) 0,ns.getD (4+4*i+2) 0==1,ns.getD (4+4*i+3) 0⟩
theorem zU(h:List Nat)(i:Nat):(natsI h).getD i 0=(h.getD i 0:Nat):=by
 simp only[natsI,qyf,qym];cases h[i]?<;>rfl
theorem xy(xs:List Int)(i j:Nat)(h:j<4):(rowI xs i).getD j 0=xs.getD (4+4*i+j) 0:=by
 simp only[rowI,qyf,qyp,if_pos h,qyi]
theorem JB(j:List Nat)(i:Nat):entX (natsI j) i=entC (qa j i):=by
 unfold entX entC qa;rw[xy _ _ _ oM,xy _ _ _ oM,xy _ _ _ oM,xy _ _ _ oM,zU,zU,zU,zU];have:((j.getD (4+4*i+2) 0:Nat):Int)==1↔j.getD (4+4*i+2) 0==1:=by simp;omega
 rw[Bool.eq_iff_iff.2 this];rfl
def pgSeq(b:Bk):Nat:=(numsP b).getD 0 0
def pgNo(b:Bk):Nat:=(numsP b).getD 1 0
def pgOf(b:Bk):Nat:=(numsP b).getD 2 0
def pgMany(b:Bk):Nat:=(numsP b).getD 3 0
def pgEnts(b:Bk):List Ent:=(List.range (pgMany b)).map (qa (numsP b))
def goesP(seq of no:Nat)(b:Bk):Bool:=
 if of<=no then b==zB else okP b&&(pgSeq b==seq&&(pgNo b==no&&(pgOf b==of&&(if no+1=of then !(pgMany b==0&&decide (0<no))else pgMany b==4))))
def readSeq(l:List Bk):Nat:=pgSeq (l.getD 0 zB)
def readOf(l:List Bk):Nat:=pgOf (l.getD 0 zB)
def readOk(l:List Bk):Bool:=okP (l.getD 0 zB)&&(decide (readOf l<=l.length)&&(List.range l.length).all fun i=>goesP (readSeq l) (readOf l) i (l.getD i zB))
def entsTo(l:List Bk)(k:Nat):List Ent:=(List.range k).flatMap fun i=>pgEnts (l.getD i zB)
def readEs(l:List Bk):List Ent:=entsTo l (readOf l)
theorem Tl{b:Bk}(h:okP b=true):mayP (natsI (numsP b))=true:=by
 unfold okP okGet at h;simp only[qxo]at h;exact h.2.2.2
theorem yF{b:Bk}(h:okP b=true):pgSeq b<=1099511627776/\pgNo b<=255/\1<=pgOf b/\pgOf b<=256/\pgMany b<=4:=by
 have q:=Tl h;unfold mayP at q;rw[qxo,qxo]at q;have E:(natsI (numsP b)).length=20:=by simp[natsI,numsP,zR,UV]
 have j:=q.1.1;have s:=yh j (i:=0) de oM;have w1:=yh j (i:=1) de oM;have v:=yh j (i:=2) de oM;have A:=yh j (i:=3) de oM;have e:∀i (D:i<(natsI (numsP b)).length),(natsI (numsP b))[i]=((numsP b).getD i 0:Nat):=fun i D=>by
  rw[<-zU,qyf,qyj D];rfl
 rw[e]at s w1 v A;simp only[bndP,qys,qyr]at s w1 v A;unfold pgSeq pgNo pgOf pgMany;omega
theorem XV{p:Nat}{b:Bk}{T:TypeId}(h:w.heap[p]?=some (.cells (dsP (natsI (numsP b))).toArray T (0,0)))(s:okP b=true):
  w.cell? ⟨p,0,none⟩=some (.int .i64 (pgSeq b:Nat))/\w.cell? ⟨p,1,none⟩=some (.int .i64 (pgNo b:Nat))/\w.cell? ⟨p,2,none⟩=some (.int .i64 (pgOf b:Nat))/\w.cell? ⟨p,3,none⟩=some (.int .i64 (pgMany b:Nat))/\w.rangeAt p 4 ((pgEnts b).flatMap entC):=by
 refine⟨?_,?_,?_,?_,?_⟩
 .rw [za h 0];show some (Value.int .i64 ((natsI (numsP b)).getD 0 0))=_;rw[zU];rfl
 .rw [za h 1];show some (Value.int .i64 ((natsI (numsP b)).getD 1 0))=_;rw[zU];rfl
 .rw [za h 2];show some (Value.int .i64 ((natsI (numsP b)).getD 2 0))=_;rw[zU];rfl
 .rw [za h 3];show some (Value.int .i64 ((natsI (numsP b)).getD 3 0))=_;rw[zU];rfl
 .obtain ⟨-,-,-,-,v⟩:=yF s;intro j u q;have A:=(qyl.1 q).1;rw[za h];have e:(dsP (natsI (numsP b))).toArray[4+j]?=((List.range 4).flatMap fun i=>entC (qa (numsP b) i))[j]?:=by
   rw[qyq];unfold dsP dsPk;rw[qyh oe];simp only[qyz,qzc];rw[show 4+j-(0+1+1+1+1)=j by omega]
   congr 1
   rw[List.flatMap_def,List.flatMap_def]
   congr 1
   apply List.map_congr_left;intro i D;rw[if_pos (qzs.1 D),JB]
  rw[e,<-q];unfold pgEnts;rw[List.flatMap_map];rw[show List.range 4=List.range (pgMany b)++(List.range (4-pgMany b)).map (pgMany b+·) by rw[<-List.range_add,Nat.add_sub_cancel' v],qyd,qyg];have:((List.range (pgMany b)).flatMap fun i=>entC (qa (numsP b) i))=((pgEnts b).flatMap entC):=by unfold pgEnts;rw[List.flatMap_map]
  rw[this];exact A
theorem uk{seq:Nat}{E:List Ent}(G:seq<=1099511627776)(H:∀x∈E,Ze x)(J:needN E.length<=256)(K:k<needN E.length):
  let b:=sectP (pageXs seq (needN E.length) E k)
  okP b=true/\pgSeq b=seq/\pgNo b=k/\pgOf b=needN E.length/\pgMany b=(partE E k).length/\pgEnts b=partE E k:=by
 intro b;obtain⟨h1,h2⟩:=QI (yX seq (needN E.length) E k) (tH G H J K);have j:numsP b=pgN seq k (needN E.length) (partE E k).length (padE (partE E k)):=by
  have:natsI (numsP b)=natsI (pgN seq k (needN E.length) (partE E k).length (padE (partE E k))):=h2;unfold natsI at this;exact(List.map_inj_right (f:=fun(n:Nat)=>(n:Int)) (fun x y h=>Int.ofNat_inj.1 h)).1 this
 have v:pgMany b=(partE E k).length:=by unfold pgMany;rw[j];rfl
 refine⟨h1,?_,?_,?_,v,?_⟩
 .unfold pgSeq;rw[j];rfl
 .unfold pgNo;rw[j];rfl
 .unfold pgOf;rw[j];rfl
 .unfold pgEnts;rw[v,j];have L:=qB E k;have M:∀i,i<(partE E k).length->qa (pgN seq k (needN E.length) (partE E k).length (padE (partE E k))) i=(partE E k).getD i Ent.none:=by
   intro i N;have A:=Zf seq k (needN E.length) (partE E k).length (padE (partE E k)) (i:=i) (by rw[qC L];omega);have Q:(padE (partE E k)).getD i Ent.none=(partE E k).getD i Ent.none:=by
    simp[padE,List.getD_eq_getElem?_getD,List.getElem?_append_left N]
   rw[Q]at A;generalize (partE E k).getD i Ent.none=x at*;generalize pgN seq k (needN E.length) (partE E k).length (padE (partE E k))=R at*;have s:∀q,q<4->R.getD (4+4*i+q) 0=(entN x).getD q 0:=fun q U=>by
    have:=congrArg (fun l=>l.getD q 0) A;simp only[xy _ _ _ U,zU]at this;exact Int.ofNat_inj.1 this
   have D:=s 0 oM;have q1:=s 1 oM;have q2:=s 2 oM;have V:=s 3 oM;unfold qa;rw[qXm]at D;rw[D,q1,q2,V];obtain⟨b,W,d,m⟩:=x;cases d<;>rfl
  apply qyc
  .simp
  .intro i h1 h2;rw[qyt,List.getElem_range,M i h2,qyf,qyj h2];rfl
theorem XW(E:List Ent):∀k,(List.range k).flatMap (partE E)=E.take (4*k)
 |0=>oe
 |k+1=>by
  rw[qXc,qyd,XW E k];simp only[qye,List.flatMap_nil,qxw,partE];rw[show 4*(k+1)=4*k+4 by omega,List.take_add]
theorem JC(E:List Ent)(k:Nat):(partE E k).length=min 4 (E.length-4*k):=by simp[partE]
theorem rR{seq:Nat}{E:List Ent}(s:seq<=1099511627776)(v:∀x∈E,Ze x)(A:needN E.length<=256){l:List Bk}(U:needN E.length<=l.length)(H:∀i<l.length,l.getD i zB=(pagesB seq E).getD i zB):
  readOk l=true/\readSeq l=seq/\readEs l=E:=by
 have J:1<=needN E.length:=by unfold needN;omega
 have D:∀i,i<needN E.length->l.getD i zB=sectP (pageXs seq (needN E.length) E i):=fun i j=>by
  rw[H i oM,pagesB,yk,qyf,qym,List.getElem?_range j];rfl
 have G:=uk s v A (k:=0) J;dsimp only at G;rw[<-D 0 J]at G;obtain⟨a1,a2,a3,a4,a5,W⟩:=G;have K:readOf l=needN E.length:=a4;refine⟨?_,a2,?_⟩
 .unfold readOk;rw[a1,K,qYs U,qxp,qxp,qxu];intro i j;have j:=qzs.1 j;unfold goesP;by_cases h:needN E.length<=i
  .rw [if_pos h,H i j,qyf,qyk (by rw[pagesB,xM];exact h)];simp
  .rw [if_neg h];obtain⟨L,M,N,Q,R,q⟩:=uk s v A (k:=i) oM;rw[<-D i oM]at L M N Q R q;rw[L,M,N,Q,R,show readSeq l=seq from a2,JC];unfold needN at h⊢;split
   .next V=>
    simp only[qxp,beq_self_eq_true,Bool.not_eq_true',Bool.and_eq_false_iff,qYp,qYr];by_cases X:i=0
    .right;omega
    .left;omega
   .next V=>
    simp only[qxp,beq_self_eq_true,beq_iff_eq];omega
 .unfold readEs entsTo;rw[K];have:(List.range (needN E.length)).flatMap (fun i=>pgEnts (l.getD i zB))=(List.range (needN E.length)).flatMap (partE E):=by
   rw[List.flatMap_def,List.flatMap_def]
   congr 1
   apply List.map_congr_left;intro i j;obtain⟨-,-,-,-,-,q⟩:=uk s v A (k:=i) (qzs.1 j);rw[<-D i (qzs.1 j)]at q;exact q
  rw[this,XW,qXj (by unfold needN;omega)]
theorem JD:okP zB=false:=kR
def JE(w1:World)(y:Bk)(s5 s6:Value)(wx:World):Prop:=
 ∃p,s5=.pointer (some ⟨p,0,none⟩)/\s6=.int .i64 0/\wx.heap[p]?=some (.cells (bkC y).toArray 54 (0,0))/\w1.heap.size<=p/\Below w1.heap.size w1 wx
def QK(T:Nat->Prop)(b:Nat)(F:List Bk)(O:List (Nat×Bk))(z:Bk)(w2:World)(s8 s6:Value)(wx:World):Prop:=
 ∃q,s8=.pointer (some ⟨q,0,none⟩)/\s6=.int .i64 0/\wx.heap[q]?=some (.cells (bkC z).toArray 54 (0,0))/\w2.heap.size<=q/\Dv (fun j=>T j/\j≠q) wx b F O []/\Upd T w2 wx
def putO(F:List Bk)(O:List (Nat×Bk))(s:Nat)(y:Bk):List Bk:=if curB F O s=y then flushF F O else flushF F (O++[(s,y)])
theorem Zcg162{P:Prop}(h:P:=by
  clear ay az;go_wp2
  go_ret
  exact⟨rfl,by rw[aZ.o];exact aA.o.1.wide (fun j h=>D.o.1 j h.1),((D.o.2.2.2.2.2.1.mono fE).trans (U.o.2.1.mono (fun j _ h=>D.o.1 j h))).trans (aA.o.2.mono (fun j _ h=>D.o.1 j h.1))⟩):P:=h
theorem zdw{l base n fi an:Nat}(b3:LogI w l b base n fi)(af:Dv S w b F O [])(am:∀j,w.heap.size<=j->S j)(ao:¬S l)(b4:Nib w)
  (aB:¬S 1) (b5:ZY fi) (bx:base+n<=F.length) (bQ:O.length<65000) (xs:List Value) (b6:xs[0]?=some (.int .i64 (an:Int))) (hx:(prog.info? 107).map (·.size)=some xs.length)
  (y:Bk) (hy:y.length=64) (bR:an<n) (hz:curB F O (base+an)=y\/curB F O (base+an)=zB) (b7:∀E,Nib E->Calls prog 116 #[.agg xs.toArray] E (tI E (fun ap aq=>ap=bkC y/\aq=0))):
  Calls prog 222 #[.pointer (some ⟨l,0,none⟩),.agg xs.toArray] w fun e w'=>e=.returned (.int .i64 0)/\Dv S w' b (putO F O (base+an) y) [] []/\Upd S w w':=by
 have a7:Upd (fun _=>False) w (w.alloc (.cells xs.toArray 107)):=(uur _ w).alloc _;have aC:=zf (zc w (.cells xs.toArray 107) rfl);have aD:(w.alloc (.cells xs.toArray 107)).heap.size=w.heap.size+1:=oe;have ag:=b3.keep a7 id;have aE:=b4.keep a7 id;have bS:=af.good.fl;have G:=Y9 af am ao aB b5 b6 hx hy b7;have bz:=qqh hz;have a6:=Y5 ag aE a7 aC aD;obtain⟨a8,c1,c2,b8,-,-⟩:=ag.c;have C:=Y3 a8 c1 c2;clear hz b3 af am ao b4 aB b5 b6 hx hy b7 ag aE a7 a8 c1 c2;go_enter func222,ntmps222
 go_wp2_with fail
 generalize w.alloc (.cells xs.toArray 107)=w1 at*;obtain⟨m,aa⟩:∃m,Hid (m=w.heap.size):=⟨_,rfl⟩
 rw[<-aa.out];rw[<-aa.out]at aC;clear aD
 go_cut [5,6] (fun bA aL aM=>JE w1 y bA aL aM)
 case first=>
  refine qZd (S:=fun E=>E.cell? ⟨l,3,none⟩=some (.func (.func 116) #[] #[])/\E.rangeAt m 0 xs) kR (⟨by rw[qYi];exact b8,by rw[qYk];exact aC⟩) (fun H=>?_);refine Wl.i [0,1,2,3] ?_;iterate 4 refine Wl.t H ?_
  refine Wl.o ?_;refine Wl.l 4 (fun w h=>h.2) underlying107 G.o.2.2.2.2.2.2.1 H ?_;refine qYy (rs:=[5,9]) kR oe ?_;refine qxb rfl (fun v s=>?_) (qxb rfl (fun v s=>?_) qxc)
  .go_simp
   refine(UY xs G.o.2.2.2.2.2.2.1 116 #[] (fun _ _=>rfl) _ (fun ap aq h=>by rw[h.1];exact⟨by rw[zn,G.o.2.2.2.2.2.2.2.1],zu _⟩) (fun E aN=>G.o.2.2.2.2.2.2.2.2 E (((a6.o.2.1.keep ((uur (fun _=>False) _).drew) id).below aN)))).mono ?_;rintro e K ⟨ap,aq,⟨rfl,rfl⟩,rfl,W⟩;have hz:=G.o.2.2.2.2.2.2.2.1;refine s.o _ _ (⟨(uuo (S:=fun _=>False) W).jU H.1 id,Below.range W H.2⟩) (fun J=>?_);clear s v;refine Wl.i [6,7,8] ?_;iterate 3 refine Wl.t J ?_
   refine Wl.o ?_;refine Wl.r 9 (fun v s=>?_);go_simp
   show v _ (K.alloc (.cells (bkC zB).toArray 54));have hg4:=zc K (.cells (bkC zB).toArray 54) rfl;have b9:Upd (fun _=>False) K (K.alloc (.cells (bkC zB).toArray 54)):=(uur _ _).alloc _;have bB:w1.heap.size<=K.heap.size:=W.size;have aO:Below w1.heap.size w1 (K.alloc (.cells (bkC zB).toArray 54)):=(yj W).alloc bB _;have bC:m<K.heap.size/\l<K.heap.size:=by have h1:=a6.o.1.lt;have h2:=a6.o.2.2.2.2;have bD:=aa.out;constructor<;>omega
   refine s.o _ _ (⟨b9.jU J.1 id,b9.range J.2 id⟩) (fun M=>?_);clear s v;generalize K.heap.size=p at*;generalize K.alloc (.cells (bkC zB).toArray 54)=ba at*;refine Wl.r 10 (fun v s=>?_);rw[if_pos oA];refine qZe _ _ _ rfl _ _ (List.toArray _) rfl rfl oU (by rw[zm _ hz];exact zI) (qYo (zu _)) ?_;simp only[Act.put,qXd];refine s.o _ _ (⟨zD M.1 oM,(zo ba p 0 (bkC y)).range M.2 oM⟩) (fun Q=>?_);clear s v;refine Wl.r 11 (fun v s=>?_);go_simp
   refine s.o _ _ (Q) (fun _=>?_);clear s v;refine Wl.d ?_;clear Q;go_wp2_with fail
   go_meet
   case rel=>exact⟨p,rfl,rfl,yn hg4 zG hz,oM,zj aO (zo ba p 0 (bkC y)) (qXp _) (fun k e=>oM)⟩
  .go_simp
   show v _ (w1.drew.alloc (.cells (bkC zB).toArray 54));have bb:(w1.drew.alloc (.cells (bkC zB).toArray 54)).heap[w1.heap.size]?=some (.cells (bkC zB).toArray 54):=zc w1.drew _ rfl;have aP:Upd (fun _=>False) w1.drew (w1.drew.alloc (.cells (bkC zB).toArray 54)):=(uur _ _).alloc _;have bc:Below w1.heap.size w1 (w1.drew.alloc (.cells (bkC zB).toArray 54)):=(zN (qxl _ w1) 1).alloc (qXp _) _;have bE:=(a6.o.2.1.keep ((uur (fun _=>False) _).drew) id).keep aP id;have bC:m<w1.heap.size/\l<w1.heap.size:=by have h1:=a6.o.1.lt;have h2:=a6.o.2.2.2.2;have bD:=aa.out;constructor<;>omega
   refine s.o _ _ (⟨aP.jU H.1 id,aP.range H.2 id⟩) (fun J=>?_);clear s v;generalize w1.drew.alloc (.cells (bkC zB).toArray 54)=bT at*;refine Wl.r 5 (fun v s=>?_);go_simp
   refine(UY xs G.o.2.2.2.2.2.2.1 116 #[] (fun _ _=>rfl) _ (fun ap aq h=>by rw[h.1];exact⟨by rw[zn,G.o.2.2.2.2.2.2.2.1],zu _⟩) (fun E aN=>G.o.2.2.2.2.2.2.2.2 E ((bE.below aN)))).mono ?_;rintro e K ⟨ap,aq,⟨rfl,rfl⟩,rfl,W⟩;have hz:=G.o.2.2.2.2.2.2.2.1;have hg4:=(W.block w1.heap.size (zd bb)).trans bb;have aO:Below w1.heap.size w1 K:=bc.trans (W.mono bc.size);refine s.o _ _ (⟨(uuo (S:=fun _=>False) W).jU J.1 id,Below.range W J.2⟩) (fun M=>?_);clear s v;refine Wl.i [6,7,8] ?_;iterate 3 refine Wl.t M ?_
   refine Wl.o ?_;refine Wl.r 10 (fun v s=>?_);rw[if_pos oA];refine qZe _ _ _ rfl _ _ (List.toArray _) rfl rfl oU (by rw[zm _ hz];exact zI) (qYo (zu _)) ?_;simp only[Act.put,qXd];refine s.o _ _ (⟨zD M.1 oM,(zo K w1.heap.size 0 (bkC y)).range M.2 oM⟩) (fun Q=>?_);clear s v;refine Wl.r 11 (fun v s=>?_);go_simp
   refine s.o _ _ (Q) (fun _=>?_);clear s v;refine Wl.d ?_;clear Q;go_wp2_with fail
   go_meet
   case rel=>exact⟨w1.heap.size,rfl,rfl,yn hg4 zG hz,qXp _,zj aO (zo K w1.heap.size 0 (bkC y)) (qXp _) (fun k e=>oM)⟩
 case rest=>
  obtain⟨p,rfl,rfl,X,ar,Y⟩:=hcut;obtain⟨ag,aE,a7,bd,aD⟩:=a6.o;have bU:m<w1.heap.size:=by have:=aa.out;omega
  have au:=ag.below Y;have be:wc.rangeAt m 0 xs:=Below.range Y (by rw[aa.out];exact bd);have av:Upd (fun _=>False) w wc:=a7.trans (uuo Y);have aw:=zd X;have aF:=Y.size;have bf:=Y7 X Y au av ar aw aF;clear X Y au av ar aw ag aE a7 bd aD aF;go_wp2_with (first
   |(refine qZa rfl _ _ rfl _ _ rfl _ _ be underlying107 rfl G.o.2.2.2.2.2.2.1 ?_)
   |fail)
  refine(zav bf.o.2.2.1 G.o.2.2.2.2.1 an xs G.o.2.2.2.2.2.1 G.o.2.2.2.2.2.2.1).mono ?_;rintro e A ⟨rfl,ah⟩;obtain⟨X,Y,au,av,ar,aw,aF⟩:=bf.o;have aQ:=au.below ah;have bg:=(ah.block p aw).trans X;have aR:Upd (fun _=>False) w A:=av.trans (uuo ah);have bF:=ah.size;obtain⟨af,am,ao,aB,-⟩:=G.o;have bG:=aa.out;have aS:Dv (fun j=>(S j/\j≠m)/\j≠p) A b F O []:=((((af.but (q:=m) oM).keep a6.o.2.2.1 (fun _ _ h=>h)).but ar).keep (uuo (S:=fun _=>False) Y) (fun _ _ h=>h)).keep (uuo (S:=fun _=>False) ah) (fun _ _ h=>h);have aG:∀j,A.heap.size<=j->(S j/\j≠m)/\j≠p:=fun j ai=>⟨⟨am j (by have:=aR.size;omega),oM⟩,oM⟩
  obtain⟨T,ax⟩:∃T:Nat->Prop,T=fun j=>(S j/\j≠m)/\j≠p:=⟨_,rfl⟩
  have aT:∀j,T j->S j:=fun j h=>by rw[ax]at h;exact h.1.1
  have bh:¬T p:=fun h=>by rw[ax]at h;exact h.2 rfl
  have bi:¬T l:=fun h=>ao (aT l h);rw[<-ax]at aS;replace aG:∀j,A.heap.size<=j->T j:=fun j ai=>by rw[ax];exact aG j ai
  obtain⟨a8,c1,c2,-⟩:=aQ.c;have bV:=aQ.lt;have D:=Y7 aT bh bi aS aG aR bg;have bH:p<A.heap.size:=oM;clear ax aT bh bi aS aG aR bg aQ au av Y X ah af am ao aB ar aw aF bF bG be;have q1:decide ((an:Int)<0)=false:=oe;have q2:decide ((n:Int)<=(an:Int))=false:=by simp;omega
  have bj:(curB F O (base+an)).length=64:=uz G.o.1.good _;go_wp2
  go_cut [8,6] (fun bI aL aM=>QK T b F O (curB F O (base+an)) A bI aL aM)
  case first=>
   have aH:IntKind.i64.wrap ((base:Int)+(an:Int))=((base+an:Nat):Int):=qxt _ oM;refine qZd (S:=fun E=>E.cell? ⟨l,0,none⟩=some (.pointer (some ⟨b,0,none⟩))/\E.cell? ⟨l,1,none⟩=some (.int .i64 (base:Int))) kR (⟨by rw[qYi];exact a8,by rw[qYi];exact c1⟩) (fun H=>?_);refine Wl.i [0,1,2,3,4,5,6,7,8,9] ?_;iterate 10 refine Wl.t H ?_
   refine Wl.o ?_;refine qYy (rs:=[10,14]) kR oe ?_;refine qxb rfl (fun v s=>?_) (qxb rfl (fun v s=>?_) qxc)
   .go_simp
    refine(wE (D.o.2.2.2.1.keep ((uur (fun _=>False) A).drew) (fun _ _ h=>h)) (D.o.2.2.2.2.1) (base+an) oM).mono ?_;rintro e R ⟨L,aU,rfl,ab,ad,hz2l,aV,Z⟩;replace ab:L=curB F O (base+an):=ab;replace ad:aU=0:=ad;subst ab ad;refine s.o _ _ (⟨Z.jU H.1 D.o.2.2.1,Z.jU H.2 D.o.2.2.1⟩) (fun J=>?_);clear s v;refine Wl.i [11,12,13] ?_;iterate 3 refine Wl.t J ?_
    refine Wl.o ?_;refine Wl.r 14 (fun v s=>?_);go_simp
    show v _ (R.alloc (.cells (bkC zB).toArray 54));have hg8:=zc R (.cells (bkC zB).toArray 54) rfl;have V:Upd (fun _=>False) R (R.alloc (.cells (bkC zB).toArray 54)):=(uur _ _).alloc _;have bk:A.heap.size<=R.heap.size:=Z.size;have aI:=(aV.but (qXp _)).keep V (fun _ _ h=>h);have bJ:Upd T A (R.alloc (.cells (bkC zB).toArray 54)):=((uur _ A).drew.trans Z).trans (V.mono fE);refine s.o _ _ (⟨V.jU J.1 id,V.jU J.2 id⟩) (fun M=>?_);clear s v;generalize R.heap.size=N at*;generalize R.alloc (.cells (bkC zB).toArray 54)=aj at*;refine Wl.r 15 (fun v s=>?_);rw[if_pos oA];refine qZe _ _ _ rfl _ _ (List.toArray _) rfl rfl ox ju (qYo (zu _)) ?_;simp only[Act.put,qXd];refine s.o _ _ (⟨zD M.1 oM,zD M.2 oM⟩) (fun Q=>?_);clear s v;refine Wl.r 16 (fun v s=>?_);go_simp
    refine s.o _ _ (Q) (fun _=>?_);clear s v;refine Wl.d ?_;clear Q aH;go_wp2_with fail
    go_meet
    case rel=>exact⟨N,rfl,rfl,yn hg8 zG hz2l,bk,aI.keep (zo aj N 0 (bkC (curB F O (base+an)))) (fun j h e=>h.2 e),bJ.trans ((zo aj N 0 (bkC (curB F O (base+an)))).mono (fun j _ e=>e▸D.o.2.2.2.2.1 _ bk))⟩
   .go_simp
    show v _ (A.drew.alloc (.cells (bkC zB).toArray 54));have bl:(A.drew.alloc (.cells (bkC zB).toArray 54)).heap[A.heap.size]?=some (.cells (bkC zB).toArray 54):=zc A.drew _ rfl;have aJ:Upd (fun _=>False) A (A.drew.alloc (.cells (bkC zB).toArray 54)):=((uur _ A).drew).alloc _;have bK:Dv (fun j=>T j/\j≠A.heap.size) (A.drew.alloc (.cells (bkC zB).toArray 54)) b F O []:=(D.o.2.2.2.1.but (qXp _)).keep aJ (fun _ _ h=>h);have bW:(A.drew.alloc (.cells (bkC zB).toArray 54)).heap.size=A.heap.size+1:=oe;refine s.o _ _ (⟨aJ.jU a8 id,aJ.jU c1 id⟩) (fun J=>?_);clear s v;generalize A.drew.alloc (.cells (bkC zB).toArray 54)=bX at*;refine Wl.r 10 (fun v s=>?_);go_simp
    refine(wE (bK) (fun j ai=>⟨D.o.2.2.2.2.1 j oM,oM⟩) (base+an) oM).mono ?_;rintro e R ⟨L,aU,rfl,ab,ad,hz2l,aV,Z⟩;replace ab:L=curB F O (base+an):=ab;replace ad:aU=0:=ad;subst ab ad;have hg8:=(Z.block A.heap.size (zd bl) (fun h=>h.2 rfl)).trans bl;refine s.o _ _ (⟨Z.jU J.1 (fun h=>D.o.2.2.1 h.1),Z.jU J.2 (fun h=>D.o.2.2.1 h.1)⟩) (fun M=>?_);clear s v;refine Wl.i [11,12,13] ?_;iterate 3 refine Wl.t M ?_
    refine Wl.o ?_;refine Wl.r 15 (fun v s=>?_);rw[if_pos oA];refine qZe _ _ _ rfl _ _ (List.toArray _) rfl rfl ox ju (qYo (zu _)) ?_;simp only[Act.put,qXd];refine s.o _ _ (⟨zD M.1 oM,zD M.2 oM⟩) (fun Q=>?_);clear s v;refine Wl.r 16 (fun v s=>?_);go_simp
    refine s.o _ _ (Q) (fun _=>?_);clear s v;refine Wl.d ?_;clear Q aH;go_wp2_with fail
    go_meet
    case rel=>exact⟨A.heap.size,rfl,rfl,yn hg8 zG hz2l,qXp _,aV.keep (zo R A.heap.size 0 (bkC (curB F O (base+an)))) (fun j h e=>h.2 e),((aJ.mono fE).trans (Z.mono (fun j _ h=>h.1))).trans ((zo R A.heap.size 0 (bkC (curB F O (base+an)))).mono (fun j _ e=>e▸D.o.2.2.2.2.1 _ (qXp _)))⟩
  case rest=>
   obtain⟨N,rfl,rfl,aW,bY,bn,ak⟩:=hcut;have bo:=ak.jU a8 D.o.2.2.1;have bp:=ak.jU c1 D.o.2.2.1;have X:=(ak.block p bH D.o.2.1).trans D.o.2.2.2.2.2.2;have aX:=zf aW;have aK:=zf X;have bZ:=zd aW;have bq:∀j,wc.heap.size<=j->T j/\j≠N:=fun j ai=>⟨D.o.2.2.2.2.1 j (by have:=ak.size;omega),oM⟩
   have c0:¬p=N:=oM;have U:=Y4 bn ak bq bj;have br:¬(T l/\l≠N):=fun h=>D.o.2.2.1 h.1;have bs:¬(T p/\p≠N):=fun h=>D.o.2.1 h.1;have aY:=Y2 br bs;clear aW bn ak bq bj a8 c1 c2 X br bs b8 aC;have bt:=bz.o;have bu:Hid (putO F O (base+an) y=if curB F O (base+an)=y then flushF F O else flushF F (O++[(base+an,y)])):=rfl;generalize curB F O (base+an)=L at*;have bL:=qqh bt;have bM:=qr L y U.o.2.2.2 G.o.2.2.2.2.2.2.2.1;clear bt;by_cases ae:L=y
   .have bN:(L==y)=true:=by simpa using ae
    have aZ:Hid (putO F O (base+an) y=flushF F O):=bu.o.trans (if_pos ae);clear ae;go_wp2_with (first
     |(refine qZa rfl _ _ rfl _ _ rfl _ _ aX underlying54 rfl (zv _ U.o.2.2.2) ?_)
     |(refine qZa rfl _ _ rfl _ _ rfl _ _ aK underlying54 rfl (zv _ G.o.2.2.2.2.2.2.2.1) ?_)
     |fail)
    refine(xg U.o.1 U.o.2.2.1).mono ?_;rintro e b0 ⟨rfl,ay,az⟩;have aA:=Y2 (show Dv (fun j=>T j/\j≠N) b0 b (flushF F O) [] []from ay) az;exact Zcg162
   .have bN:(L==y)=false:=by simpa using ae
    have bv:L=zB:=bL.out.resolve_left ae;have bO:∀E,(Op.equalIn 10000 54 (.agg (bkC L).toArray) (.agg #[.int .u8 0,.int .u8 0,.int .u8 0,.int .u8 0,.int .u8 0,.int .u8 0,.int .u8 0,.int .u8 0,.int .u8 0,.int .u8 0,.int .u8 0,.int .u8 0,.int .u8 0,.int .u8 0,.int .u8 0,.int .u8 0,.int .u8 0,.int .u8 0,.int .u8 0,.int .u8 0,.int .u8 0,.int .u8 0,.int .u8 0,.int .u8 0,.int .u8 0,.int .u8 0,.int .u8 0,.int .u8 0,.int .u8 0,.int .u8 0,.int .u8 0,.int .u8 0,.int .u8 0,.int .u8 0,.int .u8 0,.int .u8 0,.int .u8 0,.int .u8 0,.int .u8 0,.int .u8 0,.int .u8 0,.int .u8 0,.int .u8 0,.int .u8 0,.int .u8 0,.int .u8 0,.int .u8 0,.int .u8 0,.int .u8 0,.int .u8 0,.int .u8 0,.int .u8 0,.int .u8 0,.int .u8 0,.int .u8 0,.int .u8 0,.int .u8 0,.int .u8 0,.int .u8 0,.int .u8 0,.int .u8 0,.int .u8 0,.int .u8 0,.int .u8 0])).run prog E=.ok (L==zB) E:=qr L zB U.o.2.2.2 zG;have bP:(L==zB)=true:=by simpa using bv
    have bx:(!(L==zB))=false:=by rw[bP];rfl
    have aZ:Hid (putO F O (base+an) y=flushF F (O++[(base+an,y)])):=bu.o.trans (if_neg ae);clear bv ae;go_wp2_with (first
     |(refine qZa rfl _ _ rfl _ _ rfl _ _ aX underlying54 rfl (zv _ U.o.2.2.2) ?_)
     |(refine qZa rfl _ _ rfl _ _ rfl _ _ aK underlying54 rfl (zv _ G.o.2.2.2.2.2.2.2.1) ?_)
     |fail)
    have aH:IntKind.i64.wrap ((base:Int)+(an:Int))=((base+an:Nat):Int):=qxt _ oM;clear bM bO;refine qZd (S:=fun E=>(E.cell? ⟨l,0,none⟩=some (.pointer (some ⟨b,0,none⟩))/\E.cell? ⟨l,1,none⟩=some (.int .i64 (base:Int)))/\E.rangeAt p 0 (bkC y)) kR (⟨⟨by rw[qYi];exact bo,by rw[qYi];exact bp⟩,by rw[qYk];exact aK⟩) (fun H=>?_);refine Wl.i [0,1,2,3,4,5,6,7,8,9] ?_;iterate 10 refine Wl.t H ?_
    refine Wl.o ?_;refine Wl.l 10 (fun w h=>h.2) underlying54 (zv _ G.o.2.2.2.2.2.2.2.1) H ?_;refine Wl.r 11 (fun v s=>?_);go_simp
    refine(wD (U.o.1.keep ((uur (fun _=>False) wc).drew) (fun _ _ h=>h)) U.o.2.2.1 (base+an) oM y G.o.2.2.2.2.2.2.2.1 oM).mono ?_;rintro e aj ⟨rfl,aI,V⟩;have b1:Upd (fun j=>T j/\j≠N) wc aj:=(uur _ wc).drew.trans V;refine s.o _ _ (⟨⟨V.jU H.1.1 aY.o.1,V.jU H.1.2 aY.o.1⟩,V.range H.2 aY.o.2⟩) (fun J=>?_);clear s v;refine Wl.r 12 (fun v s=>?_);go_simp
    refine s.o _ _ (J) (fun _=>?_);clear s v;refine Wl.d ?_;have c3:=J.1.1;have b2:=Y3 (show Dv (fun j=>T j/\j≠N) aj b F (O++[(base+an,y)]) []from aI) b1 (fun j (ai:aj.heap.size<=j)=>U.o.2.2.1 j (qXr b1.size ai));clear H J aI V b1 bo bp aX aK aH;go_wp2_with fail
    refine(xg b2.o.1 b2.o.2.2).mono ?_;rintro e b0 ⟨rfl,ay,az⟩;have aA:=Y2 (show Dv (fun j=>T j/\j≠N) b0 b (flushF F (O++[(base+an,y)])) [] []from ay) (b2.o.2.1.trans az);exact Zcg162
end
end Go.Proofs.YtbnpkobbnjihjaaGreatDoor
